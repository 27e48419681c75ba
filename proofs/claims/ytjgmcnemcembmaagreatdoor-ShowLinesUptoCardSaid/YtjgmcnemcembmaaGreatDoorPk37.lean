import Derived.Test.YtjgmcnemcembmaaGreatDoorPk36
set_option linter.unusedSimpArgs false
set_option linter.unusedVariables false
namespace Go.Proofs.YtjgmcnemcembmaaGreatDoor
open Go Go.TL
attribute [local irreducible] TR TO Then InBlock RetK Sound LoopK Kf GG ThenL
theorem nodeN_le{es:List En}{n:Nod}(h:OkN es n):nodeN n≤100001000:=by
 have h1:=h.few
 have h2:=linesN_le 3 n.autos h.autos (by omega)
 have h3:=bndN_le (m:=3) (Nat.le_refl _)
 have h4:=oneN_le n.locals.length
 unfold nodeN
 omega
theorem u8_ne{c d:UInt8}(h:c≠d):(c.toNat:Int)≠(d.toNat:Int):=fun hh=>h (UInt8.toNat.inj (by omega))
theorem count_at{s:Str}{i:Nat}(h:i<s.length):(s.take (i+1)).count 10=(s.take i).count 10+(if s[i]=10 then 1 else 0):=by
 rw[take_at h,List.count_append]
 congr 1
 by_cases hc:s[i]=10
 ·rw[if_pos hc,hc];rfl
 ·rw[if_neg hc]
  exact List.count_eq_zero.2 fun hm=>hc (List.mem_singleton.1 hm).symm
set_option maxHeartbeats 16000000 in
theorem showLines_law (p:Prog) (hw:(T.ag (progC p)).w≤2200000):Pure Tryz.prog 6 [.t (.ag (progC p))] (.b true):=by
 have ha:=awake9
 have hh:=heavy9_sound p (Nat.le_trans hw (by decide))
 have s1:=showProg_sound p (Nat.le_trans hw (by decide)) (arg_pr hw)
 cases hb:heavy9 p with
 | true=>
   rw[hb]at hh
   unfold progC at*
   refine so Tryz.func6 ?_
   repeat' (first|refine wu ?_|exact wkc|intro hc|refine wk2 ?_ ?_|refine wv hh ?_|refine wv ha ?_|fail)
   exact wkr
 | false=>
   rw[hb]at hh
   by_cases hz:(shapeX p).2=0
   ·have hp:=okP_of hz
    have hsh:showP p=(progS p,0):=by unfold showP;rw[if_pos hz]
    rw[hsh]at s1
    have hln:=lns_prog hp
    have hlen:=(shPr_of hp hw).len
    have k1:=hln.count
    have k2:=hln.good
    have k3:=hln.last
    dsimp only at s1
    generalize progS p=tx at*
    have hN:∀j,((p.nodes.take j).map nodeN).sum≤(p.nodes.map nodeN).sum:=sumN_take _ p.nodes
    have hA:∀j (hlt:j<p.nodes.length),((p.nodes.take (j+1)).map nodeN).sum=((p.nodes.take j).map nodeN).sum+nodeN p.nodes[j]:=fun j hlt=>sumN_at _ hlt
    have hB:(p.nodes.map nodeN).sum≤96*100001000:=Nat.le_trans (sum_c _ _ fun n hn=>nodeN_le (hp.nodes n hn)) (Nat.mul_le_mul_right _ hp.few.2)
    have hm1:(p.enums.map enT).length=p.enums.length:=List.length_map _
    have hm2:(p.nodes.map nodT).length=p.nodes.length:=List.length_map _
    have hf1:=hp.few.1
    have hf2:=hp.few.2
    clear hln hsh hb
    unfold progC at*
    refine so Tryz.func6 ?_
    repeat' (first|refine wkt ?_|refine wv hh ?_|refine wv s1 ?_|exact wkc|intro hc|refine wk2 ?_ ?_|fail)
    refine TR.loopN p.nodes.length (fun _=>True) (fun j=>[(1,.cp [.sl 2 (p.enums.map enT),nodesT p.nodes] 0),(3,.s tx),(5,.i ((p.enums.length+((p.nodes.take j).map nodeN).sum:Nat):Int)),(6,.i j)]) (fun _=>[]) trivial (fun j hlt _=>?_) (fun _=>?_) ⟨rfl,rfl,by rw[<-hm1];rfl,rfl,trivial⟩ rfl
    ·have hx:=at_nod hlt
     have hj:=hA j hlt
     have hNj:=hN (j+1)
     have hn:=hp.nodes _ (List.getElem_mem hlt)
     have hcl:=lines9 3 p.nodes[j].autos (Nat.le_refl _) hn.autos (by have:=hn.few;omega)
     have hcb:=linesN_le 3 p.nodes[j].autos hn.autos (by have:=hn.few;omega)
     have hcb2:=bndN_le (m:=3) (Nat.le_refl _)
     have ho:=one9 (p.nodes[j].locals.map declT).length
     have hol:=oneN_le (p.nodes[j].locals.map declT).length
     have hfew:=hn.few
     have hst2:p.enums.length+((p.nodes.take (j+1)).map nodeN).sum=p.enums.length+((p.nodes.take j).map nodeN).sum+(3+oneN (p.nodes[j].locals.map declT).length+(p.nodes[j].assume.map exT).length+(p.nodes[j].ensure.map exT).length+(p.nodes[j].eqs.map equT).length+linesN 3 p.nodes[j].autos):=by
      rw[hj]
      simp only[nodeN,List.length_map]
      omega
     have q1:(p.nodes[j].assume.map exT).length≤8:=by rw[List.length_map];exact hfew.2.2.2.2.2.1
     have q2:(p.nodes[j].ensure.map exT).length≤8:=by rw[List.length_map];exact hfew.2.2.2.2.2.2
     have q3:(p.nodes[j].eqs.map equT).length≤256:=by rw[List.length_map];exact hfew.2.2.2.1
     have q4:p.enums.length+((p.nodes.take j).map nodeN).sum≤10000000000:=by
      have:=hN j
      omega
     clear hj hn hfew hN hA k1 k2 k3
     generalize p.enums.length+((p.nodes.take j).map nodeN).sum=acc at*
     generalize linesN 3 p.nodes[j].autos=ln at*
     generalize oneN (p.nodes[j].locals.map declT).length=on at*
     generalize p.nodes[j]=n at*
     unfold nodC at hx
     repeat' (first|refine wkt ?_|(apply TO.indexAddr tabOk;(iterate 8 exact rfl);omega;exact hx)|exact wkc|intro hc|refine wk2 ?_ ?_|fail)
     apply rgW [5] [_,_,_,_,_,_,_,_,_,_,_,_,_,_,_,_,_,_,_,_,_,_,_,_] (hE:=?hE)
     case hp=>
      repeat' (first|refine And.intro (fun env=>?_) ?_|refine wma ?_|refine wmv ho ?_|refine wmv hcl ?_|exact trivial|exact⟨⟨rfl,rfl⟩,trivial⟩|refine wmk ?_|fail)
      done
     case hE=>exact rfl
     case hK=>
      repeat' (first|refine wu ?_|exact wkc|intro hc|refine wk2 ?_ ?_|fail)
      exact LoopK.nextN hlt trivial (by(try dsimp only);rw[hst2];exact⟨rfl,rfl,rfl,rfl,trivial⟩) rfl
    rw[List.take_length]
    have hpn:p.enums.length+(p.nodes.map nodeN).sum=progN p:=rfl
    rw[hpn]
    clear hN hA hB hpn
    generalize progN p=N at*
    repeat' (first|refine wkt ?_|refine LoopK.exit ?_|exact wkc|intro hc|refine wk2 ?_ ?_|fail)
    refine TR.loopN tx.length (fun _=>True) (fun i=>[(3,.s tx),(5,.i N),(8,.i ((tx.take i).count 10:Nat)),(9,.i i)]) (fun _=>[]) trivial (fun i hlt _=>?_) (fun _=>?_) ⟨rfl,rfl,rfl,rfl,trivial⟩ rfl
    ·have hx:tx[i]?=some tx[i]:=List.getElem?_eq_getElem hlt
     have hct:=count_at hlt
     have hk:=k2 i
     have hcl:=List.count_le_length (a:=(10:UInt8)) (l:=tx.take i)
     have hcl2:(tx.take i).length≤1000000000:=by rw[List.length_take];omega
     generalize (tx.take i).count 10=c0 at*
     generalize tx[i]=c at*
     by_cases hc10:c=10
     ·subst hc10
      rw[if_pos rfl]at hct
      obtain⟨d,d1,d2,d3,d4⟩:=hk hx
      have e1:tx[((i:Int)-1).toNat]?=some d:=by rw[show((i:Int)-1).toNat=i-1 by omega];exact d2
      have e2:=u8_ne d3
      have e3:=u8_ne d4
      have e4:¬(d.toNat:Int)=32:=e2
      have e5:¬(d.toNat:Int)=10:=e3
      repeat' (first|refine wkt ?_|(exact fun hc=>absurd hc e4)|(exact fun hc=>absurd hc e5)|exact wkc|intro hc|refine wk2 ?_ ?_|refine wk ?_|fail)
      exact LoopK.nextN hlt trivial (by(try dsimp only);rw[hct];exact⟨rfl,rfl,rfl,rfl,trivial⟩) rfl
     ·rw[if_neg hc10]at hct
      have e4:¬(c.toNat:Int)=10:=u8_ne hc10
      repeat' (first|refine wkt ?_|(exact fun hc=>absurd hc e4)|exact wkc|intro hc|refine wk2 ?_ ?_|refine wk ?_|fail)
      exact LoopK.nextN hlt trivial (by(try dsimp only);rw[hct];exact⟨rfl,rfl,rfl,rfl,trivial⟩) rfl
    ·rw[List.take_length,k1]
     rcases k3 with k3|k3
     ·subst k3
      repeat' (first|refine wkt ?_|refine wv ha ?_|refine LoopK.exit ?_|(exact fun hc=>absurd rfl hc)|exact wkc|intro hc|refine wk2 ?_ ?_|refine wk ?_|fail)
      exact wkr
     ·have hpos:0<tx.length:=by
       cases tx with
       | nil=>simp at k3
       | cons a l=>simp
      have e1:tx[((tx.length:Int)-1).toNat]?=some 10:=by rw[show((tx.length:Int)-1).toNat=tx.length-1 by omega];exact k3
      have e4:¬(tx.length:Int)=0:=by omega
      repeat' (first|refine wkt ?_|refine wv ha ?_|refine LoopK.exit ?_|(exact fun hc=>absurd rfl hc)|(exact fun hc=>absurd hc e4)|exact wkc|intro hc|refine wk2 ?_ ?_|refine wk ?_|fail)
      exact wkr
   ·have hsh:showP p=([],(shapeX p).2):=by unfold showP;rw[if_neg hz]
    rw[hsh]at s1
    dsimp only at s1
    generalize (shapeX p).2=c at*
    unfold progC at*
    refine so Tryz.func6 ?_
    repeat' (first|refine wkt ?_|refine wv hh ?_|refine wv s1 ?_|refine wv ha ?_|(exact fun hc=>absurd rfl hc)|(exact fun hc=>absurd hc hz)|exact wkc|intro hc|refine wk2 ?_ ?_|refine wk ?_|fail)
    all_goals first
     | exact wkr
     | (exfalso;omega)
end Go.Proofs.YtjgmcnemcembmaaGreatDoor
