import Derived.Test.YtjgmcnemcembmaaGreatDoorPk27
import Derived.Test.YtjgmcnemcembmaaGreatDoorPk29
set_option linter.unusedSimpArgs false
set_option linter.unusedVariables false
namespace Go.Proofs.YtjgmcnemcembmaaGreatDoor
open Go Go.TL
attribute [local irreducible] TR TO Then InBlock RetK Sound LoopK Kf GG ThenL
theorem lineR9(level:Nat)(s:Str)(hv:level≤100)(hl:s.length≤100000000000000):Pure Tryz.prog 29 [.i level,.s s] (.s (lineS level s)):=by
 refine so Tryz.func29 ?_
 repeat' (first|refine wkt ?_|fail)
 refine TR.loopN level (fun _=>True) (fun j=>[(0,.i level),(1,.s (Go.Lib.repeatL [32,32] j++s)),(5,.i j)]) (fun _=>[]) trivial (fun j hlt _=>?_) (fun _=>?_) ⟨rfl,rfl,rfl,trivial⟩ rfl
 ·have hr:=Go.Lib.repeatL_length [32,32] j
  have he:Go.Lib.repeatL [32,32] (j+1)++s=[32,32]++(Go.Lib.repeatL [32,32] j++s):=by simp[Go.Lib.repeatL]
  simp only[List.length_cons,List.length_nil]at hr
  have hr2:(Go.Lib.repeatL [32,32] j++s).length≤100000000000300:=by rw[List.length_append];omega
  generalize Go.Lib.repeatL [32,32] j++s=r at*
  repeat' (first|refine wu ?_|exact wkc|intro hc|refine wk2 ?_ ?_|(apply TO.cat;exact rfl;exact rfl;exact rfl;(first|omega|(simp only[List.length_append,List.length_cons,List.length_nil];omega)))|fail)
  exact LoopK.nextN hlt trivial (by(try dsimp only);rw[he];exact⟨rfl,rfl,rfl,trivial⟩) rfl
 ·have hr:=Go.Lib.repeatL_length [32,32] level
  simp only[List.length_cons,List.length_nil]at hr
  have hr2:(Go.Lib.repeatL [32,32] level++s).length≤100000000000300:=by rw[List.length_append];omega
  unfold lineS
  generalize Go.Lib.repeatL [32,32] level++s=r at*
  repeat' (first|refine wu ?_|exact wkc|intro hc|refine wk2 ?_ ?_|(apply TO.cat;exact rfl;exact rfl;exact rfl;(first|omega|(simp only[List.length_append,List.length_cons,List.length_nil];omega)))|fail)
  exact wkr
theorem nameTR_eq(es:List En)(t:Int):(if knownT es t=true then(nameT es t).1 else[])=(nameT es t).1:=by
 unfold knownT nameT enumOf
 repeat' split
 all_goals first|rfl|(simp_all;done)
set_option maxHeartbeats 8000000 in
theorem declsR9 {es:List En} (h:ShE es) (hT:∀t:Int,(nameT es t).1.length≤3000000) (l:List Decl) (hd:∀d∈l,ShD d) (hl:l.length≤1000):Pure Tryz.prog 31 [.t (ensT es),.t (.sl 3 (l.map declT))] (.s (declsS es l)):=by
 have hml:(l.map declT).length=l.length:=List.length_map _
 have hj:=listR_sound (l.map (declS es)) [59,32] (by rw[List.length_map];omega) (by
  rw[List.map_map]
  have hall:∀l:List Decl,(∀d∈l,ShD d)->(l.map fun d=>(declS es d).length+2).sum≤l.length*6100000002:=by
   intro l
   induction l with
   | nil=>intro _;exact Nat.zero_le _
   | cons o l ih=>
     intro hh
     have h1:=declS_len h hT (hh o (List.mem_cons_self ..))
     have h2:=ih fun o ho=>hh o (List.mem_cons_of_mem _ ho)
     rw[List.map_cons,List.sum_cons,show(o::l).length=l.length+1 from rfl,Nat.add_mul]
     omega
  exact Nat.le_trans (hall l hd) (Nat.le_trans (Nat.mul_le_mul_right _ hl) (by decide)))
 unfold declsS
 have hjm:(l.map (declS es)).map T.s=l.map fun d=>T.s (declS es d):=by rw[List.map_map];rfl
 rw[hjm]at hj
 generalize Go.Lib.join (l.map (declS es)) [59,32]=z at*
 refine so Tryz.func31 ?_
 repeat' (first|refine wkt ?_|fail)
 refine TR.tail 1 5 rfl ?_
 refine TR.loopN l.length (fun _=>True) (fun j=>[(0,.t (ensT es)),(1,.t (.sl 3 (l.map declT))),(5,.sl 1 ((l.take j).map fun d=>T.s (declS es d)) 0),(6,.i j)]) (fun j=>[.tail ((l.take j).map fun d=>T.s (declS es d)).length]) trivial (fun j hlt _=>?_) (fun _=>?_) ⟨rfl,rfl,rfl,rfl,trivial⟩ rfl
 ·have hx:=at_map declT hlt
  have htk:=take_at hlt
  have hdd:=hd _ (List.getElem_mem hlt)
  have hnt:=nameTR_sound es l[j].ty h.len
  rw[nameTR_eq]at hnt
  have hln:=hT l[j].ty.1
  have hck:=clockR_sound h l[j].clock hdd.ck (Nat.le_trans hdd.few (by decide))
  have hcl:=clockS_len h hdd
  have hnm:=hdd.name
  have hlen:((l.take j).map fun d=>T.s (declS es d)).length≤1000000:=by rw[List.length_map,List.length_take];omega
  have hL1:(l.take (j+1)).map (fun d=>T.s (declS es d))=(l.take j).map (fun d=>T.s (declS es d))++[T.s (declS es l[j])]:=by rw[htk,List.map_append];rfl
  have hmc:(l[j].clock.map onT).length=l[j].clock.length:=List.length_map _
  generalize hds:declS es l[j]=ds at*
  unfold declS at hds
  generalize clockS es l[j].clock=cks at*
  generalize knownT es l[j].ty.1=kn at*
  generalize (nameT es l[j].ty.1).1=nt at*
  generalize hL:(l.take j).map (fun d=>T.s (declS es d))=L at*
  clear hdd
  generalize l[j]=d at*
  obtain⟨nm,ty,ck⟩:=d
  dsimp only[declT]at hx hds hck hnt hnm hmc
  by_cases hc0:0<ck.length
  ·rw[if_pos hc0]at hds
   have hds2:ds=nm++[58,32]++nt++[32]++cks:=by rw[<-hds];simp only[List.append_assoc]
   clear hds
   subst hds2
   repeat' (first|refine wkt ?_|refine wv hnt ?_|refine wv hck ?_|(apply TO.cat;exact rfl;exact rfl;exact rfl;(first|omega|(simp only[List.length_append,List.length_cons,List.length_nil];omega)))|exact wkc|intro hc|refine wk2 ?_ ?_|refine wk ?_|fail)
   all_goals first
    | (exfalso;omega)
    | exact LoopK.nextN hlt trivial (by(try dsimp only);rw[hL1];exact⟨rfl,rfl,rfl,rfl,trivial⟩) (by(try dsimp only);rw[hL1,List.length_append];rfl)
  ·rw[if_neg hc0]at hds
   subst hds
   repeat' (first|refine wkt ?_|refine wv hnt ?_|refine wv hck ?_|(apply TO.cat;exact rfl;exact rfl;exact rfl;(first|omega|(simp only[List.length_append,List.length_cons,List.length_nil];omega)))|exact wkc|intro hc|refine wk2 ?_ ?_|refine wk ?_|fail)
   all_goals first
    | (exfalso;omega)
    | exact LoopK.nextN hlt trivial (by(try dsimp only);rw[hL1];exact⟨rfl,rfl,rfl,rfl,trivial⟩) (by(try dsimp only);rw[hL1,List.length_append];rfl)
 ·rw[List.take_length]
  repeat' (first|refine wu ?_|exact wkc|intro hc|refine wk2 ?_ ?_|refine wv hj ?_|fail)
  exact wkr
theorem localsR9{es:List En}(h:ShE es)(hT:∀t:Int,(nameT es t).1.length≤3000000)(level:Nat)(hv:level≤100)(l:List Decl)(hd:∀d∈l,ShD d)(hl:l.length≤1000):
  Pure Tryz.prog 32 [.t (ensT es),.i level,.t (.sl 3 (l.map declT))] (.s (localsS es level l)):=by
 have hml:(l.map declT).length=l.length:=List.length_map _
 have hdl:=declsS_len h hT l hd hl
 have hs:=declsR9 h hT l hd hl
 have ha:=lineR9 level ([118,97,114,32]++declsS es l++[59]) hv (by simp only[List.length_append,List.length_cons,List.length_nil];omega)
 unfold localsS
 by_cases h0:0<l.length
 ·rw[if_pos h0]
  generalize lineS level ([118,97,114,32]++declsS es l++[59])=ln at*
  generalize declsS es l=z at*
  refine so Tryz.func32 ?_
  repeat' (first|refine wu ?_|exact wkc|intro hc|refine wk2 ?_ ?_|refine wv hs ?_|refine wv ha ?_|(apply TO.cat;exact rfl;exact rfl;exact rfl;(first|omega|(simp only[List.length_append,List.length_cons,List.length_nil];omega)))|fail)
  all_goals first
   | (exfalso;omega)
   | exact wkr
 ·rw[if_neg h0]
  refine so Tryz.func32 ?_
  repeat' (first|refine wu ?_|exact wkc|intro hc|refine wk2 ?_ ?_|fail)
  all_goals first
   | (exfalso;omega)
   | exact wkr
set_option maxHeartbeats 8000000 in
theorem claimsR9 {es:List En} (h:ShE es) (word:Str) (hwd:word.length≤100) (l:List Ex) (hq:∀q∈l,ShOk q/\wEx q≤400) (hl:l.length≤1000000) (hb:(flatS (claimS es word) l).length≤1000000000):
  Pure Tryz.prog 33 [.t (ensT es),.s word,.t (.sl 6 (l.map exT))] (.s (flatS (claimS es word) l)):=by
 have hml:(l.map exT).length=l.length:=List.length_map _
 refine so Tryz.func33 ?_
 repeat' (first|refine wkt ?_|fail)
 refine TR.loopN l.length (fun _=>True) (fun j=>[(0,.t (ensT es)),(1,.s word),(2,.t (.sl 6 (l.map exT))),(7,.s (flatS (claimS es word) (l.take j))),(8,.i j)]) (fun _=>[]) trivial (fun j hlt _=>?_) (fun _=>?_) ⟨rfl,rfl,rfl,rfl,rfl,trivial⟩ rfl
 ·have hx:=at_map exT hlt
  rw[exT_eq]at hx
  have htk:=take_at hlt
  have hfl:=flatS_take (claimS es word) l (j+1)
  rw[htk,flatS_snoc,List.length_append]at hfl
  have hj1:flatS (claimS es word) (l.take (j+1))=flatS (claimS es word) (l.take j)++claimS es word l[j]:=by rw[htk,flatS_snoc]
  have hqq:=hq _ (List.getElem_mem hlt)
  have hs:=textF_sound h 400 _ hqq.1 hqq.2 (by decide)
  have hgl:(shF es 400 l[j]).length≤5000000000:=by
   have h1:=shF_len h 400 _ hqq.1
   have h2:wEx l[j]*12000100≤400*12000100:=Nat.mul_le_mul_right _ hqq.2
   omega
  have hee:claimS es word l[j]=lineS 1 (word++[32]++shF es 400 l[j]++[59]):=rfl
  have hadd:=lineR9 1 (word++[32]++shF es 400 l[j]++[59]) (by decide) (by simp only[List.length_append,List.length_cons,List.length_nil];omega)
  rw[<-hee]at hadd
  clear hqq hee
  unfold RfC at hs
  generalize claimS es word l[j]=ln at*
  generalize shF es 400 l[j]=g at*
  generalize flatS (claimS es word) (l.take j)=acc at*
  generalize l[j]=q at*
  have he:exC q=[T.n q.kind,T.n q.op,T.n q.t,T.n q.v,.s q.name,.sl 6 (q.args.map exT)]:=rfl
  rw[he]at hx hs
  repeat' (first|refine wkt ?_|refine wv hs ?_|refine wv hadd ?_|(apply TO.cat;exact rfl;exact rfl;exact rfl;(first|omega|(simp only[List.length_append,List.length_cons,List.length_nil];omega)))|exact wkc|intro hc|refine wk2 ?_ ?_|refine wk ?_|fail)
  exact LoopK.nextN hlt trivial (by(try dsimp only);rw[hj1];exact⟨rfl,rfl,rfl,rfl,rfl,trivial⟩) rfl
 ·rw[List.take_length]
  repeat' (first|refine wu ?_|exact wkc|intro hc|refine wk2 ?_ ?_|fail)
  exact wkr
set_option maxHeartbeats 8000000 in
theorem equsR9 {es:List En} (h:ShE es) (level:Nat) (hv:level≤100) (l:List Equ) (hq:∀q∈l,ShQ q) (hl:l.length≤1000000) (hb:(flatS (equS es level) l).length≤1000000000):
  Pure Tryz.prog 34 [.t (ensT es),.i level,.t (.sl 7 (l.map equT))] (.s (flatS (equS es level) l)):=by
 have hml:(l.map equT).length=l.length:=List.length_map _
 refine so Tryz.func34 ?_
 repeat' (first|refine wkt ?_|fail)
 refine TR.loopN l.length (fun _=>True) (fun j=>[(0,.t (ensT es)),(1,.i level),(2,.t (.sl 7 (l.map equT))),(7,.s (flatS (equS es level) (l.take j))),(8,.i j)]) (fun _=>[]) trivial (fun j hlt _=>?_) (fun _=>?_) ⟨rfl,rfl,rfl,rfl,rfl,trivial⟩ rfl
 ·have hx:(l.map equT)[j]?=some (.ag [T.sl 1 (l[j].left.map T.s),T.n l[j].right.kind,T.n l[j].right.op,T.n l[j].right.t,T.n l[j].right.v,T.s l[j].right.name,T.sl 6 (l[j].right.args.map exT)]):=at_map equT hlt
  have htk:=take_at hlt
  have hfl:=flatS_take (equS es level) l (j+1)
  rw[htk,flatS_snoc,List.length_append]at hfl
  have hj1:flatS (equS es level) (l.take (j+1))=flatS (equS es level) (l.take j)++equS es level l[j]:=by rw[htk,flatS_snoc]
  have hqq:=hq _ (List.getElem_mem hlt)
  have hs:=textF_sound h 400 _ hqq.ok hqq.size (by decide)
  have hgl:(shF es 400 l[j].right).length≤5000000000:=by
   have h1:=shF_len h 400 _ hqq.ok
   have h2:wEx l[j].right*12000100≤400*12000100:=Nat.mul_le_mul_right _ hqq.size
   omega
  have hjl:(Go.Lib.join l[j].left [44,32]).length≤3000002000:=by
   refine Nat.le_trans (join_len [44,32] 3000000 _ hqq.left) ?_
   exact Nat.le_trans (Nat.mul_le_mul_right _ hqq.few) (by decide)
  have hjn:=listR_sound l[j].left [44,32] (Nat.le_trans hqq.few (by decide)) (by
   have hall:∀l:List Str,(∀d∈l,d.length≤3000000)->(l.map fun x=>x.length+2).sum≤l.length*3000002:=by
    intro l
    induction l with
    | nil=>intro _;exact Nat.zero_le _
    | cons o l ih=>
      intro hh
      have h1:=hh o (List.mem_cons_self ..)
      have h2:=ih fun o ho=>hh o (List.mem_cons_of_mem _ ho)
      rw[List.map_cons,List.sum_cons,show(o::l).length=l.length+1 from rfl,Nat.add_mul]
      omega
   exact Nat.le_trans (hall _ hqq.left) (Nat.le_trans (Nat.mul_le_mul_right _ hqq.few) (by decide)))
  have hlh:lhsS l[j].left=if 1<l[j].left.length then[40]++Go.Lib.join l[j].left [44,32]++[41] else Go.Lib.join l[j].left [44,32]:=rfl
  have hll:(lhsS l[j].left).length≤3000003000:=by
   rw[hlh]
   split
   ·simp only[List.length_append,List.length_cons,List.length_nil];omega
   ·omega
  have hee:equS es level l[j]=lineS level (lhsS l[j].left++[32,61,32]++shF es 400 l[j].right++[59]):=rfl
  have hadd:=lineR9 level (lhsS l[j].left++[32,61,32]++shF es 400 l[j].right++[59]) hv (by simp only[List.length_append,List.length_cons,List.length_nil];omega)
  rw[<-hee]at hadd
  have hms:(l[j].left.map T.s).length=l[j].left.length:=List.length_map _
  clear hqq hee
  unfold RfC at hs
  unfold exC at hs
  generalize equS es level l[j]=ln at*
  generalize shF es 400 l[j].right=g at*
  generalize flatS (equS es level) (l.take j)=acc at*
  generalize Go.Lib.join l[j].left [44,32]=jn at*
  generalize lhsS l[j].left=lh at*
  generalize l[j]=q at*
  by_cases h1:1<q.left.length
  ·rw[if_pos h1]at hlh
   subst hlh
   repeat' (first|refine wkt ?_|refine wv hs ?_|refine wv hjn ?_|refine wv hadd ?_|(apply TO.cat;exact rfl;exact rfl;exact rfl;(first|omega|(simp only[List.length_append,List.length_cons,List.length_nil];omega)))|exact wkc|intro hc|refine wk2 ?_ ?_|refine wk ?_|fail)
   all_goals first
    | (exfalso;omega)
    | exact LoopK.nextN hlt trivial (by(try dsimp only);rw[hj1];exact⟨rfl,rfl,rfl,rfl,rfl,trivial⟩) rfl
  ·rw[if_neg h1]at hlh
   subst hlh
   repeat' (first|refine wkt ?_|refine wv hs ?_|refine wv hjn ?_|refine wv hadd ?_|(apply TO.cat;exact rfl;exact rfl;exact rfl;(first|omega|(simp only[List.length_append,List.length_cons,List.length_nil];omega)))|exact wkc|intro hc|refine wk2 ?_ ?_|refine wk ?_|fail)
   all_goals first
    | (exfalso;omega)
    | exact LoopK.nextN hlt trivial (by(try dsimp only);rw[hj1];exact⟨rfl,rfl,rfl,rfl,rfl,trivial⟩) rfl
 ·rw[List.take_length]
  repeat' (first|refine wu ?_|exact wkc|intro hc|refine wk2 ?_ ?_|fail)
  exact wkr
set_option maxHeartbeats 8000000 in
theorem transR9 {es:List En} (h:ShE es) (word:Str) (hwd:word.length≤100) (level:Nat) (hv:level≤100) (sts:List Sta) (hnm:∀s∈sts,s.name.length≤3000000) (l:List Tran) (hq:∀q∈l,ShTr sts.length q) (hl:l.length≤1000000)
  (hb:(flatS (tranS es level word sts) l).length≤1000000000):
  Pure Tryz.prog 99 [.t (ensT es),.i level,.s word,.t (.sl 8 (l.map tranT)),.t (.ag [.sl 6 (sts.map staT)])] (.s (flatS (tranS es level word sts) l)):=by
 have hml:(l.map tranT).length=l.length:=List.length_map _
 refine so Tryz.func99 ?_
 repeat' (first|refine wkt ?_|fail)
 refine TR.loopN l.length (fun _=>True) (fun j=>[(0,.t (ensT es)),(1,.i level),(2,.s word),(3,.t (.sl 8 (l.map tranT))),(9,.cp [.sl 6 (sts.map staT)] 0),(11,.s (flatS (tranS es level word sts) (l.take j))),(12,.i j)]) (fun _=>[]) trivial (fun j hlt _=>?_) (fun _=>?_) ⟨rfl,rfl,rfl,rfl,rfl,rfl,rfl,trivial⟩ rfl
 ·have hx:(l.map tranT)[j]?=some (tranT l[j]):=at_map tranT hlt
  have htk:=take_at hlt
  have hfl:=flatS_take (tranS es level word sts) l (j+1)
  rw[htk,flatS_snoc,List.length_append]at hfl
  have hj1:flatS (tranS es level word sts) (l.take (j+1))=flatS (tranS es level word sts) (l.take j)++tranS es level word sts l[j]:=by rw[htk,flatS_snoc]
  have hqq:=hq _ (List.getElem_mem hlt)
  have hs:=textF_sound h 400 _ hqq.ok hqq.size (by decide)
  have hto:=hqq.tgt
  have hlt2:l[j].to.1.toNat<sts.length:=by omega
  have hst:=at_map staT hlt2
  have hsn:=hnm _ (List.getElem_mem hlt2)
  have hgl:(shF es 400 l[j].cond).length≤5000000000:=by
   have h1:=shF_len h 400 _ hqq.ok
   have h2:wEx l[j].cond*12000100≤400*12000100:=Nat.mul_le_mul_right _ hqq.size
   omega
  have hkl:(kwS l[j].resume).length≤10:=by unfold kwS;split <;> decide
  have hee:tranS es level word sts l[j]=lineS level (word++[32]++shF es 400 l[j].cond++kwS l[j].resume++sts[l[j].to.1.toNat].name++[59]):=by
   unfold tranS
   rw[List.getElem?_eq_getElem hlt2]
   rfl
  have hadd:=lineR9 level (word++[32]++shF es 400 l[j].cond++kwS l[j].resume++sts[l[j].to.1.toNat].name++[59]) hv (by simp only[List.length_append,List.length_cons,List.length_nil];omega)
  rw[<-hee]at hadd
  clear hqq hee hkl
  unfold RfC at hs
  unfold exC at hs
  rw[staT_eq]at hst
  generalize tranS es level word sts l[j]=ln at*
  generalize shF es 400 l[j].cond=g at*
  generalize flatS (tranS es level word sts) (l.take j)=acc at*
  generalize sts[l[j].to.1.toNat]=st at*
  generalize l[j]=q at*
  have hx:(l.map tranT)[j]?=some (.ag [T.n q.cond.kind,T.n q.cond.op,T.n q.cond.t,T.n q.cond.v,.s q.cond.name,.sl 6 (q.cond.args.map exT),T.n q.to,.b q.resume]):=hx
  generalize q.resume=res at*
  cases res with
  | true=>
    have hk:kwS true=[32,99,111,110,116,105,110,117,101,32]:=rfl
    rw[hk]at hadd
    repeat' (first|refine wkt ?_|(apply TO.indexAddr tabOk;(iterate 8 exact rfl);omega;exact hx)|exact wkc|intro hc|refine wk2 ?_ ?_|fail)
    apply rgW [11] [_,_,_,_,_,_,_,_,_,_,_,_,_,_,_,_,_,_,_,_,_,_,_,_,_,_,_,_,_] (hE:=?hE1)
    case hp=>
     repeat' (first|refine And.intro (fun env=>?_) ?_|refine wma ?_|refine wmv hs ?_|refine wmv hadd ?_|(apply TO.indexAddr tabOk;(iterate 8 exact rfl);omega;exact hx)|(apply TO.indexAddr tabOk;(iterate 8 exact rfl);exact hto.1;exact hst)|(apply TO.cat;exact rfl;exact rfl;exact rfl;(first|omega|(simp only[List.length_append,List.length_cons,List.length_nil];omega)))|exact trivial|exact⟨⟨rfl,rfl⟩,trivial⟩|refine wmk ?_|fail)
     done
    case hE1=>exact rfl
    case hK=>
     repeat' (first|refine wu ?_|exact wkc|intro hc|refine wk2 ?_ ?_|fail)
     exact LoopK.nextN hlt trivial (by(try dsimp only);rw[hj1];exact⟨rfl,rfl,rfl,rfl,rfl,rfl,rfl,trivial⟩) rfl
  | false=>
    have hk:kwS false=[32,116,104,101,110,32]:=rfl
    rw[hk]at hadd
    repeat' (first|refine wkt ?_|(apply TO.indexAddr tabOk;(iterate 8 exact rfl);omega;exact hx)|exact wkc|intro hc|refine wk2 ?_ ?_|fail)
    apply rgW [11] [_,_,_,_,_,_,_,_,_,_,_,_,_,_,_,_,_,_,_,_,_,_,_,_,_,_,_,_,_] (hE:=?hE2)
    case hp=>
     repeat' (first|refine And.intro (fun env=>?_) ?_|refine wma ?_|refine wmv hs ?_|refine wmv hadd ?_|(apply TO.indexAddr tabOk;(iterate 8 exact rfl);omega;exact hx)|(apply TO.indexAddr tabOk;(iterate 8 exact rfl);exact hto.1;exact hst)|(apply TO.cat;exact rfl;exact rfl;exact rfl;(first|omega|(simp only[List.length_append,List.length_cons,List.length_nil];omega)))|exact trivial|exact⟨⟨rfl,rfl⟩,trivial⟩|refine wmk ?_|fail)
     done
    case hE2=>exact rfl
    case hK=>
     repeat' (first|refine wu ?_|exact wkc|intro hc|refine wk2 ?_ ?_|fail)
     exact LoopK.nextN hlt trivial (by(try dsimp only);rw[hj1];exact⟨rfl,rfl,rfl,rfl,rfl,rfl,rfl,trivial⟩) rfl
 ·rw[List.take_length]
  repeat' (first|refine wu ?_|exact wkc|intro hc|refine wk2 ?_ ?_|fail)
  exact wkr
theorem autosR9{es:List En}(ga:Auto->Str)(level:Nat)(autos:List Auto)(hl:autos.length≤1000000)(ha:∀a∈autos,(ga a).length≤1000000000->Pure Tryz.prog 63 [.t (ensT es),.i level,.t (autoT a)] (.s (ga a)))(hb:(flatS ga autos).length≤1000000000):
  Pure Tryz.prog 35 [.t (ensT es),.i level,.t (.sl 1 (autos.map autoT))] (.s (flatS ga autos)):=by
 have hml:(autos.map autoT).length=autos.length:=List.length_map _
 refine so Tryz.func35 ?_
 repeat' (first|refine wkt ?_|fail)
 refine TR.loopN autos.length (fun _=>True) (fun j=>[(0,.t (ensT es)),(1,.i level),(2,.t (.sl 1 (autos.map autoT))),(7,.s (flatS ga (autos.take j))),(8,.i j)]) (fun _=>[]) trivial (fun j hlt _=>?_) (fun _=>?_) ⟨rfl,rfl,rfl,rfl,rfl,trivial⟩ rfl
 ·have hx:=at_map autoT hlt
  have htk:=take_at hlt
  have hfl:=flatS_take (ga) autos (j+1)
  rw[htk,flatS_snoc,List.length_append]at hfl
  have hj1:flatS (ga) (autos.take (j+1))=flatS (ga) (autos.take j)++ga autos[j]:=by rw[htk,flatS_snoc]
  have hs:=ha autos[j] (List.getElem_mem hlt) (by omega)
  generalize flatS ga (autos.take j)=acc at*
  generalize ga autos[j]=ln at*
  generalize autos[j]=a at*
  obtain⟨sts⟩:=a
  rw[autoT_eq]at hx hs
  repeat' (first|refine wkt ?_|refine wv hs ?_|(apply TO.cat;exact rfl;exact rfl;exact rfl;(first|omega|(simp only[List.length_append,List.length_cons,List.length_nil];omega)))|exact wkc|intro hc|refine wk2 ?_ ?_|refine wk ?_|fail)
  exact LoopK.nextN hlt trivial (by(try dsimp only);rw[hj1];exact⟨rfl,rfl,rfl,rfl,rfl,trivial⟩) rfl
 ·rw[List.take_length]
  repeat' (first|refine wu ?_|exact wkc|intro hc|refine wk2 ?_ ?_|fail)
  exact wkr
set_option maxHeartbeats 16000000 in
theorem autoR_sound9 {es:List En} (h:ShE es) (hT:∀t:Int,(nameT es t).1.length≤3000000):∀(m level:Nat) (a:Auto),ShAu m a->level+2*m≤90->(autoS es m level a).length≤1000000000->
  Pure Tryz.prog 63 [.t (ensT es),.i level,.t (autoT a)] (.s (autoS es m level a))
 | 0,_,_,ha,_,_=>ha.elim
 | m+1,level,a,ha,hv,hb=>by
   have ih:=autoR_sound9 h hT m (level+2)
   obtain⟨sts⟩:=a
   obtain⟨hfs,hst⟩:=ha
   simp only[Auto.states]at hfs hst
   have hml:(sts.map staT).length=sts.length:=List.length_map _
   have hrr:autoS es (m+1) level (.mk sts)=lineS level [97,117,116,111,109,97,116,111,110]++flatS (staS es (autoS es m) level sts) sts++lineS level [101,110,100]:=rfl
   rw[hrr]at hb⊢
   clear hrr
   simp only[List.length_append]at hb
   have h1:=lineR9 level [97,117,116,111,109,97,116,111,110] (by omega) (by decide)
   have h2:=lineR9 level [101,110,100] (by omega) (by decide)
   rw[autoT_eq]
   simp only[Auto.states]
   have hc1:((level+1:Nat):Int)=(level:Int)+1:=by omega
   have hc2:((level+2:Nat):Int)=(level:Int)+2:=by omega
   refine so Tryz.func63 ?_
   repeat' (first|refine wkt ?_|refine wv h1 ?_|exact wkc|intro hc|refine wk2 ?_ ?_|fail)
   generalize lineS level [97,117,116,111,109,97,116,111,110]=t1 at*
   generalize lineS level [101,110,100]=le at*
   clear h1
   refine TR.loopN sts.length (fun _=>True) (fun j=>[(0,.t (ensT es)),(1,.i level),(5,.cp [.sl 6 (sts.map staT)] 0),(7,.s (t1++flatS (staS es (autoS es m) level sts) (sts.take j))),(8,.i j)]) (fun _=>[]) trivial (fun j hlt _=>?_) (fun _=>?_) ⟨rfl,rfl,rfl,by simp[flatS];rfl,rfl,trivial⟩ rfl
   ·have hx:=at_map staT hlt
    have htk:=take_at hlt
    have hfl:=flatS_take (staS es (autoS es m) level sts) sts (j+1)
    rw[htk,flatS_snoc,List.length_append]at hfl
    have hj1:t1++flatS (staS es (autoS es m) level sts) (sts.take (j+1))=t1++flatS (staS es (autoS es m) level sts) (sts.take j)++staS es (autoS es m) level sts sts[j]:=by rw[htk,flatS_snoc,List.append_assoc]
    have hlb:(t1++flatS (staS es (autoS es m) level sts) (sts.take j)).length+(staS es (autoS es m) level sts sts[j]).length≤1000000000:=by
     rw[List.length_append]
     omega
    have hs:=hst _ (List.getElem_mem hlt)
    have hnm:∀s∈sts,s.name.length≤3000000:=fun s hh=>(hst s hh).name
    clear hfl h2
    generalize t1++flatS (staS es (autoS es m) level sts) (sts.take j)=acc at*
    rw[staT_eq]at hx
    generalize hSt:sts[j]=st at*
    have hsp:staS es (autoS es m) level sts st=staS es (autoS es m) level sts st:=rfl
    conv at hsp=>rhs;unfold staS
    rw[hsp]at hlb hj1
    clear hsp
    simp only[List.length_append]at hlb
    have hsl:=hs.name
    have a1:=lineR9 (level+1) ([115,116,97,116,101,32]++st.name) (by omega) (by simp only[List.length_append,List.length_cons,List.length_nil];omega)
    have a2:=localsR9 h hT (level+2) (by omega) st.locals hs.locals hs.fewL
    have a3:=transR9 h [117,110,108,101,115,115] (by decide) (level+2) (by omega) sts hnm st.unl hs.unl hs.fewU (by omega)
    have a4:=lineR9 (level+1) [100,111] (by omega) (by decide)
    have a5:=equsR9 h (level+2) (by omega) st.eqs hs.eqs hs.fewQ (by omega)
    have a6:=autosR9 (autoS es m (level+2)) (level+2) st.autos hs.fewA (fun a ha ht=>ih a (hs.autos a ha) (by omega) ht) (by omega)
    have a7:=transR9 h [117,110,116,105,108] (by decide) (level+2) (by omega) sts hnm st.unt hs.unt hs.fewV (by omega)
    have a8:=lineR9 (level+1) [100,111,110,101] (by omega) (by decide)
    generalize lineS (level+1) ([115,116,97,116,101,32]++st.name)=p1 at*
    generalize localsS es (level+2) st.locals=p2 at*
    generalize flatS (tranS es (level+2) [117,110,108,101,115,115] sts) st.unl=p3 at*
    generalize lineS (level+1) [100,111]=p4 at*
    generalize flatS (equS es (level+2)) st.eqs=p5 at*
    generalize flatS (autoS es m (level+2)) st.autos=p6 at*
    generalize flatS (tranS es (level+2) [117,110,116,105,108] sts) st.unt=p7 at*
    generalize lineS (level+1) [100,111,110,101]=p8 at*
    clear hs hnm hst ih
    simp only[hc1,hc2]at a1 a2 a3 a4 a5 a6 a7 a8
    have hj2:acc++(p1++p2++p3++p4++p5++p6++p7++p8)=acc++p1++p2++p3++p4++p5++p6++p7++p8:=by simp only[List.append_assoc]
    rw[hj2]at hj1
    repeat' (first|refine wkt ?_|(apply TO.indexAddr tabOk;(iterate 8 exact rfl);omega;exact hx)|exact wkc|intro hc|refine wk2 ?_ ?_|fail)
    apply rgW [7] [_,_,_,_,_,_,_,_,_,_,_,_,_,_,_,_] (hE:=?hE1)
    case hp=>
     repeat' (first|refine And.intro (fun env=>?_) ?_|refine wma ?_|refine wmv a1 ?_|refine wmv a2 ?_|refine wmv a3 ?_|refine wmv a4 ?_|refine wmv a5 ?_|refine wmv a6 ?_|refine wmv a7 ?_|refine wmv a8 ?_|(apply TO.cat;exact rfl;exact rfl;exact rfl;(first|omega|(simp only[List.length_append,List.length_cons,List.length_nil];omega)))|exact trivial|exact⟨⟨rfl,rfl⟩,trivial⟩|refine wmk ?_|fail)
     done
    case hE1=>exact rfl
    repeat' (first|refine wkt ?_|refine wv a1 ?_|refine wv a2 ?_|refine wv a3 ?_|refine wv a4 ?_|refine wv a5 ?_|refine wv a6 ?_|refine wv a7 ?_|refine wv a8 ?_|refine wmk ?_|fail)
    apply rgW [7] [_,_,_,_,_,_,_,_,_,_,_,_,_,_,_,_] (hE:=?hE2)
    case hp=>
     repeat' (first|refine And.intro (fun env=>?_) ?_|refine wma ?_|refine wmv a1 ?_|refine wmv a2 ?_|refine wmv a3 ?_|refine wmv a4 ?_|refine wmv a5 ?_|refine wmv a6 ?_|refine wmv a7 ?_|refine wmv a8 ?_|(apply TO.cat;exact rfl;exact rfl;exact rfl;(first|omega|(simp only[List.length_append,List.length_cons,List.length_nil];omega)))|exact trivial|exact⟨⟨rfl,rfl⟩,trivial⟩|refine wmk ?_|fail)
     done
    case hE2=>exact rfl
    repeat' (first|refine wkt ?_|refine wv a1 ?_|refine wv a2 ?_|refine wv a3 ?_|refine wv a4 ?_|refine wv a5 ?_|refine wv a6 ?_|refine wv a7 ?_|refine wv a8 ?_|(apply TO.cat;exact rfl;exact rfl;exact rfl;(first|omega|(simp only[List.length_append,List.length_cons,List.length_nil];omega)))|exact wkc|intro hc|refine wk2 ?_ ?_|refine wk ?_|fail)
    exact LoopK.nextN hlt trivial (by(try dsimp only);rw[hj1];exact⟨rfl,rfl,rfl,rfl,rfl,trivial⟩) rfl
   ·rw[List.take_length]
    have hL1:(t1++flatS (staS es (autoS es m) level sts) sts).length+le.length≤1000000000:=by rw[List.length_append];omega
    generalize t1++flatS (staS es (autoS es m) level sts) sts=acc at*
    repeat' (first|refine wu ?_|exact wkc|intro hc|refine wk2 ?_ ?_|refine wv h2 ?_|(apply TO.cat;exact rfl;exact rfl;exact rfl;(first|omega|(simp only[List.length_append,List.length_cons,List.length_nil];omega)))|fail)
    exact wkr
end Go.Proofs.YtjgmcnemcembmaaGreatDoor
