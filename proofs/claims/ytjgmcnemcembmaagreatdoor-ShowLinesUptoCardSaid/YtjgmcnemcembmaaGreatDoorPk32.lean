import Derived.RegionTactic
import Derived.WalkKit
import Derived.Test.YtjgmcnemcembmaaGreatDoorPk9
import Derived.Test.YtjgmcnemcembmaaGreatDoorPk13
import Derived.Test.YtjgmcnemcembmaaGreatDoorPk14
import Derived.Test.YtjgmcnemcembmaaGreatDoorPk25
import Derived.Test.YtjgmcnemcembmaaGreatDoorPk30
import Derived.Test.YtjgmcnemcembmaaGreatDoorPk31
set_option linter.unusedSimpArgs false
set_option linter.unusedVariables false
namespace Go.Proofs.YtjgmcnemcembmaaGreatDoor
open Go Go.TL
attribute [local irreducible] TR TO Then InBlock RetK Sound LoopK Kf GG ThenL
def enumS(u:En):Str:=lineS 0 ([116,121,112,101,32]++u.name++[32,61,32]++Go.Lib.join u.tags [32,124,32]++[59])
def progS(p:Prog):Str:=flatS enumS p.enums++flatS (nodeS p.enums) p.nodes
def showP(p:Prog):Str×Int:=if(shapeX p).2=0 then(progS p,0) else([],(shapeX p).2)
structure ShEn (u:En):Prop where
 name:u.name.length≤3000000
 few:u.tags.length≤1000
 tags:∀t∈u.tags,t.length≤3000000
theorem ShEn.len{u:En}(h:ShEn u):(Go.Lib.join u.tags [32,124,32]).length≤3000003000:=
 Nat.le_trans (join_len [32,124,32] 3000000 _ h.tags) (Nat.le_trans (Nat.mul_le_mul_right _ h.few) (by decide))
structure ShPr (p:Prog):Prop where
 es:ShE p.enums
 ty:∀t:Int,(nameT p.enums t).1.length≤3000000
 enums:∀u∈p.enums,ShEn u
 fewE:p.enums.length≤1000000
 nodes:∀n∈p.nodes,ShNo n
 fewN:p.nodes.length≤1000000
 len:(progS p).length≤1000000000
set_option maxHeartbeats 16000000 in
theorem showPR_sound (p:Prog) (hw:(T.ag (progC p)).w≤1000000000) (h0:(shapeX p).2=0->ShPr p):Pure Tryz.prog 10 [.t (.ag (progC p))] (.tup [.s (showP p).1,.i (showP p).2]):=by
 have hsh:=shapeR_sound p hw
 unfold showP
 by_cases hz:(shapeX p).2=0
 ·rw[if_pos hz]
  rw[hz]at hsh
  have hp:=h0 hz
  have hbl:=hp.len
  unfold progS at hbl⊢
  rw[List.length_append]at hbl
  have hfe:=hp.fewE
  have hfn:=hp.fewN
  have hm1:(p.enums.map enT).length=p.enums.length:=List.length_map _
  have hm2:(p.nodes.map nodT).length=p.nodes.length:=List.length_map _
  unfold progC at*
  generalize (shapeX p).1=x1 at*
  refine so Tryz.func10 ?_
  repeat' (first|refine wkt ?_|refine wv hsh ?_|exact wkc|intro hc|refine wk2 ?_ ?_|fail)
  clear hsh
  refine TR.loopN p.enums.length (fun _=>True) (fun j=>[(1,.cp [.sl 2 (p.enums.map enT),nodesT p.nodes] 0),(6,.s (flatS enumS (p.enums.take j))),(7,.i j)]) (fun _=>[]) trivial (fun j hlt _=>?_) (fun _=>?_) ⟨rfl,rfl,rfl,trivial⟩ rfl
  ·have hx:(p.enums.map enT)[j]?=some (.ag [.s p.enums[j].name,.sl 1 (p.enums[j].tags.map T.s)]):=at_map enT hlt
   have htk:=take_at hlt
   have hfl:=flatS_take enumS p.enums (j+1)
   rw[htk,flatS_snoc,List.length_append]at hfl
   have hj1:flatS enumS (p.enums.take (j+1))=flatS enumS (p.enums.take j)++enumS p.enums[j]:=by rw[htk,flatS_snoc]
   have hu:=hp.enums _ (List.getElem_mem hlt)
   have hnl:=hu.name
   have hjl:=hu.len
   have hjn:=listR_sound p.enums[j].tags [32,124,32] (Nat.le_trans hu.few (by decide)) (by
    have hall:∀l:List Str,(∀d∈l,d.length≤3000000)->(l.map fun x=>x.length+3).sum≤l.length*3000003:=by
     intro l
     induction l with
     | nil=>intro _;exact Nat.zero_le _
     | cons o l ih=>
       intro hh
       have h1:=hh o (List.mem_cons_self ..)
       have h2:=ih fun o ho=>hh o (List.mem_cons_of_mem _ ho)
       rw[List.map_cons,List.sum_cons,show(o::l).length=l.length+1 from rfl,Nat.add_mul]
       omega
    exact Nat.le_trans (hall _ hu.tags) (Nat.le_trans (Nat.mul_le_mul_right _ hu.few) (by decide)))
   have hee:enumS p.enums[j]=lineS 0 ([116,121,112,101,32]++p.enums[j].name++[32,61,32]++Go.Lib.join p.enums[j].tags [32,124,32]++[59]):=rfl
   have hadd:=lineR9 0 ([116,121,112,101,32]++p.enums[j].name++[32,61,32]++Go.Lib.join p.enums[j].tags [32,124,32]++[59]) (by decide) (by simp only[List.length_append,List.length_cons,List.length_nil];omega)
   rw[<-hee]at hadd
   clear hee hu
   generalize enumS p.enums[j]=ln at*
   generalize flatS enumS (p.enums.take j)=acc at*
   generalize Go.Lib.join p.enums[j].tags [32,124,32]=jn at*
   generalize p.enums[j]=u at*
   repeat' (first|refine wkt ?_|(apply TO.indexAddr tabOk;(iterate 8 exact rfl);omega;exact hx)|exact wkc|intro hc|refine wk2 ?_ ?_|fail)
   apply rgW [6] [_,_,_,_,_,_,_,_,_,_,_,_,_,_,_,_,_,_,_,_,_] (hE:=?hE1)
   case hp=>
    repeat' (first|refine And.intro (fun env=>?_) ?_|refine wma ?_|refine wmv hjn ?_|refine wmv hadd ?_|(apply TO.indexAddr tabOk;(iterate 8 exact rfl);omega;exact hx)|(apply TO.cat;exact rfl;exact rfl;exact rfl;(first|omega|(simp only[List.length_append,List.length_cons,List.length_nil];omega)))|exact trivial|exact⟨⟨rfl,rfl⟩,trivial⟩|refine wmk ?_|fail)
    done
   case hE1=>exact rfl
   repeat' (first|refine wu ?_|exact wkc|intro hc|refine wk2 ?_ ?_|fail)
   exact LoopK.nextN hlt trivial (by(try dsimp only);rw[hj1];exact⟨rfl,rfl,rfl,trivial⟩) rfl
  rw[List.take_length]
  repeat' (first|refine wkt ?_|refine LoopK.exit ?_|exact wkc|intro hc|refine wk2 ?_ ?_|fail)
  generalize flatS enumS p.enums=t0 at*
  refine TR.loopN p.nodes.length (fun _=>True) (fun j=>[(1,.cp [.sl 2 (p.enums.map enT),nodesT p.nodes] 0),(6,.s (t0++flatS (nodeS p.enums) (p.nodes.take j))),(8,.i j)]) (fun _=>[]) trivial (fun j hlt _=>?_) (fun _=>?_) ⟨rfl,by simp[flatS];rfl,rfl,trivial⟩ rfl
  ·have hx:=at_nod hlt
   have htk:=take_at hlt
   have hfl:=flatS_take (nodeS p.enums) p.nodes (j+1)
   rw[htk,flatS_snoc,List.length_append]at hfl
   have hj1:t0++flatS (nodeS p.enums) (p.nodes.take (j+1))=t0++flatS (nodeS p.enums) (p.nodes.take j)++nodeS p.enums p.nodes[j]:=by rw[htk,flatS_snoc,List.append_assoc]
   have hlb:(t0++flatS (nodeS p.enums) (p.nodes.take j)).length+(nodeS p.enums p.nodes[j]).length≤1000000000:=by
    rw[List.length_append]
    omega
   have hn:=hp.nodes _ (List.getElem_mem hlt)
   have hES:=hp.es
   have hTY:=hp.ty
   clear hfl hp hbl
   generalize t0++flatS (nodeS p.enums) (p.nodes.take j)=acc at*
   generalize p.nodes[j]=n at*
   have hsp:nodeS p.enums n=nodeS p.enums n:=rfl
   conv at hsp=>rhs;unfold nodeS
   rw[hsp]at hlb hj1
   clear hsp
   simp only[List.length_append]at hlb
   have hnl:=hn.name
   have d1:=declsR9 hES hTY n.ins hn.ins hn.fewI
   have l1:=declsS_len hES hTY n.ins hn.ins hn.fewI
   have d2:=declsR9 hES hTY n.outs hn.outs hn.fewO
   have l2:=declsS_len hES hTY n.outs hn.outs hn.fewO
   have hh1:headS p.enums n=lineS 0 ([110,111,100,101,32]++n.name++[40]++declsS p.enums n.ins++[41,32,114,101,116,117,114,110,115,32,40]++declsS p.enums n.outs++[41]):=rfl
   have a1:=lineR9 0 ([110,111,100,101,32]++n.name++[40]++declsS p.enums n.ins++[41,32,114,101,116,117,114,110,115,32,40]++declsS p.enums n.outs++[41]) (by decide) (by simp only[List.length_append,List.length_cons,List.length_nil];omega)
   rw[<-hh1]at a1
   have a2:=localsR9 hES hTY 1 (by decide) n.locals hn.locals hn.fewL
   have a3:=claimsR9 hES [97,115,115,117,109,101] (by decide) n.assume hn.assume hn.fewS (by omega)
   have a4:=claimsR9 hES [101,110,115,117,114,101] (by decide) n.ensure hn.ensure hn.fewE (by omega)
   have a5:=lineR9 0 [108,101,116] (by decide) (by decide)
   have a6:=equsR9 hES 1 (by decide) n.eqs hn.eqs hn.fewQ (by omega)
   have a7:=autosR9 (autoS p.enums 3 1) 1 n.autos hn.fewA (fun a ha ht=>autoR_sound9 hES hTY 3 1 a (hn.autos a ha) (by decide) ht) (by omega)
   have a8:=lineR9 0 [116,101,108] (by decide) (by decide)
   clear hh1
   generalize headS p.enums n=p1 at*
   generalize localsS p.enums 1 n.locals=p2 at*
   generalize flatS (claimS p.enums [97,115,115,117,109,101]) n.assume=p3 at*
   generalize flatS (claimS p.enums [101,110,115,117,114,101]) n.ensure=p4 at*
   generalize lineS 0 [108,101,116]=p5 at*
   generalize flatS (equS p.enums 1) n.eqs=p6 at*
   generalize flatS (autoS p.enums 3 1) n.autos=p7 at*
   generalize lineS 0 [116,101,108]=p8 at*
   generalize declsS p.enums n.ins=si at*
   generalize declsS p.enums n.outs=su at*
   have hj2:acc++(p1++p2++p3++p4++p5++p6++p7++p8)=acc++p1++p2++p3++p4++p5++p6++p7++p8:=by simp only[List.append_assoc]
   rw[hj2]at hj1
   clear hn hES hTY
   unfold nodC at hx
   repeat' (first|refine wkt ?_|(apply TO.indexAddr tabOk;(iterate 8 exact rfl);omega;exact hx)|exact wkc|intro hc|refine wk2 ?_ ?_|fail)
   apply rgW [6] [_,_,_,_,_,_,_,_,_,_,_,_,_,_,_,_,_,_,_,_,_,_] (hE:=?hE2)
   case hp=>
    repeat' (first|refine And.intro (fun env=>?_) ?_|refine wma ?_|refine wmv d1 ?_|refine wmv d2 ?_|refine wmv a1 ?_|(apply TO.cat;exact rfl;exact rfl;exact rfl;(first|omega|(simp only[List.length_append,List.length_cons,List.length_nil];omega)))|exact trivial|exact⟨⟨rfl,rfl⟩,trivial⟩|refine wmk ?_|fail)
    done
   case hE2=>exact rfl
   repeat' (first|refine wkt ?_|fail)
   apply rgW [6] [_,_,_,_,_,_,_,_,_,_,_,_,_,_,_,_,_,_,_,_] (hE:=?hE3)
   case hp=>
    repeat' (first|refine And.intro (fun env=>?_) ?_|refine wma ?_|refine wmv a2 ?_|refine wmv a3 ?_|refine wmv a4 ?_|(apply TO.cat;exact rfl;exact rfl;exact rfl;(first|omega|(simp only[List.length_append,List.length_cons,List.length_nil];omega)))|exact trivial|exact⟨⟨rfl,rfl⟩,trivial⟩|refine wmk ?_|fail)
    done
   case hE3=>exact rfl
   repeat' (first|refine wkt ?_|fail)
   apply rgW [6] [_,_,_,_,_,_,_,_,_,_,_,_,_,_,_,_,_,_] (hE:=?hE4)
   case hp=>
    repeat' (first|refine And.intro (fun env=>?_) ?_|refine wma ?_|refine wmv a5 ?_|refine wmv a6 ?_|refine wmv a7 ?_|refine wmv a8 ?_|(apply TO.cat;exact rfl;exact rfl;exact rfl;(first|omega|(simp only[List.length_append,List.length_cons,List.length_nil];omega)))|exact trivial|exact⟨⟨rfl,rfl⟩,trivial⟩|refine wmk ?_|fail)
    done
   case hE4=>exact rfl
   repeat' (first|refine wu ?_|exact wkc|intro hc|refine wk2 ?_ ?_|fail)
   exact LoopK.nextN hlt trivial (by(try dsimp only);rw[hj1];exact⟨rfl,rfl,rfl,trivial⟩) rfl
  ·rw[List.take_length]
   repeat' (first|refine wu ?_|exact wkc|intro hc|refine wk2 ?_ ?_|fail)
   exact wkr
 ·rw[if_neg hz]
  generalize shapeX p=x at*
  unfold progC at*
  refine so Tryz.func10 ?_
  repeat' (first|refine wu ?_|exact wkc|intro hc|refine wk2 ?_ ?_|refine wv hsh ?_|fail)
  exact wkr
end Go.Proofs.YtjgmcnemcembmaaGreatDoor
namespace Go.Proofs.YtjgmcnemcembmaaGreatDoor
open Go Go.TL Go.RowKit
set_option maxHeartbeats 1000000 in
set_option maxRecDepth 100000 in
theorem bString_some (b o g cap cells:Nat) (l:Str) (h0:l≠ []) (w:World) (hc:w.cell? ⟨b,o+1,none⟩=some (.slice (some ⟨g,0,none⟩) l.length cap)) (hcap:l.length≤cap) (hcl:l.length≤cells) (hsh:w.shape? g=some (5,cells)) (h63:l.length≤9223372036854775807)
  (hcell:∀(j:Nat) x,l[j]?=some x->w.cell? ((⟨g,0,none⟩:Addr).add j)=some (.int .u8 x.toNat)):
  Calls Tryz.prog 27 #[.pointer (some ⟨b,o,none⟩)] w fun e w'=>e= .returned (.string ⟨l.toArray⟩)/\w'=w.drew.freeze ⟨g,0,none⟩ l.length:=by
 have hl0:l.length≠0:=by simpa using h0
 have c1:w.drew.cell? ⟨b,o+1,none⟩=some (.slice (some ⟨g,0,none⟩) l.length cap):=hc
 have hSD:(Builtin.unsafeSliceData_ #[68] 119 #[.slice (some ⟨g,0,none⟩) l.length cap]).run Tryz.prog w.drew= .ok (.pointer (some ⟨g,0,none⟩)) w.drew:=
  Lib.run_unsafeSliceData_row _ _ _ _ _ _ (by omega)
 have hUS:(Builtin.unsafeString_ #[119,3] 9 #[.pointer (some ⟨g,0,none⟩),.int .i64 l.length]).run Tryz.prog w.drew= .ok (.string ⟨l.toArray⟩) (w.drew.freeze ⟨g,0,none⟩ l.length):=
  Lib.run_unsafeString_row w.drew 119 3 9 5 (by kernel_rfl) (by kernel_rfl) g cells hsh l h0 hcl h63 hcell
 clear hc hsh hcell
 go_enter Tryz.func27,Tryz.ntmps27
 go_wp2
 go_region
 all_goals(go_wp2;go_ret;exact⟨rfl,rfl⟩)
set_option maxHeartbeats 1000000 in
set_option maxRecDepth 100000 in
theorem bString_none (b o:Nat) (w:World) (c1:w.drew.cell? ⟨b,o+1,none⟩=some (.slice none 0 0)):
  Calls Tryz.prog 27 #[.pointer (some ⟨b,o,none⟩)] w fun e w'=>e= .returned (.string ⟨#[]⟩)/\w'=w.drew:=by
 have hSD:(Builtin.unsafeSliceData_ #[68] 119 #[.slice none 0 0]).run Tryz.prog w.drew= .ok (.pointer none) w.drew:=Lib.run_unsafeSliceData_nil _ _ _ _ _
 have hUS:(Builtin.unsafeString_ #[119,3] 9 #[.pointer none,.int .i64 0]).run Tryz.prog w.drew= .ok (.string ⟨#[]⟩) w.drew:=Lib.run_unsafeString_none _ _ _ _ _
 go_enter Tryz.func27,Tryz.ntmps27
 go_wp2
 go_region
 all_goals(go_wp2;go_ret;exact⟨rfl,rfl⟩)
set_option maxHeartbeats 1000000 in
set_option maxRecDepth 100000 in
theorem bString_zero (b o g cap:Nat) (hcap:0<cap) (w:World) (c1:w.drew.cell? ⟨b,o+1,none⟩=some (.slice (some ⟨g,0,none⟩) 0 cap)):
  Calls Tryz.prog 27 #[.pointer (some ⟨b,o,none⟩)] w fun e w'=>e= .returned (.string ⟨#[]⟩)/\w'=w.drew:=by
 have hSD:(Builtin.unsafeSliceData_ #[68] 119 #[.slice (some ⟨g,0,none⟩) 0 cap]).run Tryz.prog w.drew= .ok (.pointer (some ⟨g,0,none⟩)) w.drew:=
  Lib.run_unsafeSliceData_row _ _ _ _ _ _ (by omega)
 have hUS:(Builtin.unsafeString_ #[119,3] 9 #[.pointer (some ⟨g,0,none⟩),.int .i64 0]).run Tryz.prog w.drew= .ok (.string ⟨#[]⟩) w.drew:=Lib.run_unsafeString_none _ _ _ _ _
 go_enter Tryz.func27,Tryz.ntmps27
 go_wp2
 go_region
 all_goals(go_wp2;go_ret;exact⟨rfl,rfl⟩)
theorem keeps_drew(w:World):Keeps w w.drew:=⟨rfl,rfl,rfl,Nat.le_refl _,fun _ _=>rfl⟩
theorem bStringG(Hc:Heap)(ib ir off:Nat)(cs:List SV)(l:Str)(hl:l.length≤1000000000)(hc:Hc[ib]?=some (.cells cs))(hrw:Hc[ir]?=some (.row 5 (bytesSV l)))(h1:cs[off+1]?=some (.rw ir l.length)):
  Sound Tryz.prog 27 [.ref ib off] Hc (fun r _=>r= .ret (.s l)):=by
 refine⟨⟨_,Tryz.func27,by kernel_rfl,rfl⟩,fun m vs hH hm ha=>?_⟩
 obtain⟨hs,ha⟩:=ha
 obtain⟨x,rfl⟩:∃x,vs= #[x]:=by
  match vs,hs with
  | ⟨[x]⟩,_=>exact⟨x,rfl⟩
 have hx:=ha 0 _ x rfl rfl
 cases hx with
 | ref _ _ p hp hn=>
 have hH0:m.H[ib]?=some (.cells cs):=by rw[hH];exact hc
 have hH1:m.H[ir]?=some (.row 5 (bytesSV l)):=by rw[hH];exact hrw
 obtain⟨b1,b2,b3⟩:=hm.blk ib p _ hp hH0
 obtain⟨y,hy,_,hr⟩:=b3 _ _ h1
 cases hr with
 | rw _ _ _ p1 hp1 _ ho=>
 obtain⟨_,hh⟩:=ho _ (by rw[hH1];rfl)
 obtain⟨ad,cap,rfl,hlc,hlo,hhi,had⟩:=hh (bytesSV_length l).symm
 obtain⟨⟨_,r2,r3⟩,r4,r5⟩:=hm.blk ir p1 _ hp1 hH1
 rw[bytesSV_length]at r2
 have same:∀(w':World),w'=m.w.drew->l=[]->∃(m':M) (r:Res),m'.w=w'/\Step m m'/\HRel m'/\ResRel m' r (.returned (.string ⟨#[]⟩))/\r= .ret (.s l):=by
  rintro w' rfl rfl
  obtain⟨s,hm'⟩:=keep_ok hm (keeps_drew m.w)
  exact⟨_,.ret (.s []),rfl,s,hm',.t _ _ (.v _),rfl⟩
 by_cases h0:l=[]
 ·cases ad with
  | none=>
    simp only at had
    subst had
    subst h0
    refine Calls.mono (bString_none p.b (p.lo+off) m.w hy) ?_
    rintro e w' ⟨rfl,rfl⟩
    exact same _ rfl rfl
  | some a=>
    simp only at had
    obtain⟨rfl,hc0⟩:=had
    subst h0
    refine Calls.mono (bString_zero p.b (p.lo+off) p1.b cap hc0 m.w hy) ?_
    rintro e w' ⟨rfl,rfl⟩
    exact same _ rfl rfl
 ·have hpos:0<l.length:=List.length_pos_iff.2 h0
  cases ad with
  | none=>
    simp only at had
    omega
  | some a=>
    simp only at had
    obtain⟨rfl,hc0⟩:=had
    refine Calls.mono (bString_some p.b (p.lo+off) p1.b cap p1.hi l h0 m.w hy hlc (by omega) (r3 (by omega)) (by omega) (fun j c hj=>?_)) ?_
    ·obtain⟨z,z1,_,z2⟩:=r5 j (byteSV c) (by simp[bytesSV,hj])
     rw[addr_add,<-hlo,z1]
     cases z2
     rfl
    ·rintro e w' ⟨rfl,rfl⟩
     obtain⟨s,hm'⟩:=row_dead (w':=m.w.drew.freeze ⟨p1.b,0,none⟩ l.length) (k:=l.length) hm hp1 hH1 (by unfold World.freeze;split <;> rfl) (by unfold World.freeze;split <;> rfl) (by unfold World.freeze;split <;> rfl) (by unfold World.freeze;split <;> rfl) r2
     exact⟨_,.ret (.s l),rfl,s,hm',.t _ _ (.v _),rfl⟩
end Go.Proofs.YtjgmcnemcembmaaGreatDoor
namespace Go.Proofs.YtjgmcnemcembmaaGreatDoor
open Go Go.TL
attribute [local irreducible] TR TO Then InBlock RetK Sound LoopK Kf GG ThenL
abbrev glH (a:Bool)(b:Blk)(es:List En)(l:Str):Heap:=[b,symB,.cells [.t (ensT es),.mp 1,bif a then .tref lnT 4 2 2 else .t (.v (.pointer none)),.rw 3 l.length],.row 5 (bytesSV l)]
theorem hands_ln(a:Bool)(b:Blk)(es:List En)(l:Str):Hands (glH a b es l) [1,2,3] (lnH a es l):=by
 cases a
 all_goals
  refine⟨by decide,by simp,rfl,fun j i c hj hc=>?_,fun j c hc=>?_⟩
  ·rcases j with _|_|_|j
   ·simp[lnH]at hj hc;subst hj hc;rfl
   ·simp[lnH]at hj hc;subst hj hc;rfl
   ·simp[lnH]at hj hc;subst hj hc;rfl
   ·simp at hj
  ·rcases j with _|_|_|j
   ·simp[lnH]at hc;subst hc;rfl
   ·simp[lnH]at hc;subst hc;rfl
   ·simp[lnH]at hc;subst hc;rfl
   ·simp[lnH]at hc
section rules
variable {n:Nat}{env:Env}{H:Heap}{K:TK}{all:Array Oper}{rest:List Oper}{d:Nat}{ty:TypeId}{pos:String}{aft:Array Edge}
theorem TO.lnC{a:Bool}{b:Blk}{es:List En}{t t':Str}{fid:FuncId}{cargs:List SV}{vs:List SV}{f:Operand}{args:Array Operand}{ts:Array TypeId}(hs:Sound Tryz.prog fid (.tref lnT 4 1 0::cargs) (lnH a es t) (fun r H'=>r= .ret (.tup [])/\H'=ln1 es t'))(hd:Nat.ble (d+1) n=true)(hf:env.val f=some (.fn fid []))(ha:env.vals args.toList=some vs)
  (hl:Les (vs++[]) (rens (names [1,2,3] 4) (.tref lnT 4 1 0::cargs)))(hu:unders 3 (.tref lnT 4 1 0::cargs)=true)
  (k:TO false Tryz.prog n all rest ((d,.tup [])::env) (glH true b es t') K):
  TO false Tryz.prog n all (⟨some d,.call { callee:=.value f,args:=args,argTypes:=ts },ty,pos,aft,none⟩::rest) env (glH a b es t) K:=
 TO.call1 [1,2,3] (v':=.tup []) (H':=glH true b es t') hs hd hf ha hl (by cases a <;> exact hu) (hands_ln a b es t) rfl (by cases a <;> rfl) k
theorem TO.boxT{t:TypeId}{x:Operand}{v:SV}{cs:List SV}(hd:Nat.ble (d+1) n=true)(hx:env.val x=some v)(hv:v.solid=true)(hc:v.cells=cs)
  (k:TO false Tryz.prog n all rest ((d,.tref t cs.length H.length 0)::env) (H++[.cells cs]) K):TO false Tryz.prog n all (⟨some d,.box t x,ty,pos,aft,none⟩::rest) env H K:=
 TO.eff hd (fun m ac h1 h2 h3=>by
  obtain⟨g1,g0,g2⟩:=(h3.val hx).cells hv
  rw[hc]at g1 g2
  obtain⟨s,hm'⟩:=grow_cells h2 cs (ac.eval x).cells t (by omega) g0 g2
  have hsz:(ac.eval x).cells.size=cs.length:=by omega
  refine⟨.pointer (some ⟨m.w.heap.size,0,none⟩),_,?_,s,hm',by rw[h1],?_⟩
  ·simp[execOp,Instr.box,newVar,newRow]
  ·rw[<-h1]
   exact SRel.tref (m:=⟨m.A,m.β++[⟨m.w.heap.size,0,(ac.eval x).cells.size⟩],m.H++[.cells cs],m.w.alloc (.cells (ac.eval x).cells t)⟩) t cs.length m.H.length 0 ⟨m.w.heap.size,0,(ac.eval x).cells.size⟩
    (by simp[h2.len]) (by intro q;simp[tlOf]) rfl (by rw[<-hsz];exact World.shape?_alloc_at _ _ _ rfl)) k
end rules
set_option maxHeartbeats 16000000 in
theorem showProg_sound (p:Prog) (hw:(T.ag (progC p)).w≤1000000000) (h0:(shapeX p).2=0->ShPr p):Pure Tryz.prog 9 [.t (.ag (progC p))] (.tup [.s (showP p).1,.i (showP p).2]):=by
 have hsh:=shapeX_sound p hw
 unfold showP
 by_cases hz:(shapeX p).2=0
 ·rw[if_pos hz]
  rw[hz]at hsh
  have hp:=h0 hz
  have hbl:=hp.len
  have hbl0:=hp.len
  unfold progS at hbl
  rw[List.length_append]at hbl
  have hpe:progS p=flatS enumS p.enums++flatS (nodeS p.enums) p.nodes:=rfl
  rw[hpe]at hbl0
  rw[hpe]
  clear hpe
  have hfe:=hp.fewE
  have hfn:=hp.fewN
  have hm1:(p.enums.map enT).length=p.enums.length:=List.length_map _
  have hm2:(p.nodes.map nodT).length=p.nodes.length:=List.length_map _
  unfold progC at*
  generalize (shapeX p).1=x1 at*
  refine so Tryz.func9 ?_
  repeat' (first|refine wkt ?_|refine wv hsh ?_|(apply TO.newW;exact rfl;exact rfl;exact rfl)|(apply TO.boxT (t:=lnT);exact rfl;exact rfl;exact rfl;exact rfl)|exact wkc|intro hc|refine wk2 ?_ ?_|fail)
  clear hsh
  apply TR.row_cell 5 2 3
  ·exact rfl
  ·exact rfl
  ·exact rfl
  repeat' (first|refine wkt ?_|exact wkc|intro hc|refine wk2 ?_ ?_|fail)
  refine TR.loopN p.enums.length (fun _=>True) (fun j=>[(1,.cp [.sl 2 (p.enums.map enT),nodesT p.nodes] 0),(6,.tref lnT 4 2 0),(25,.t (.sl 2 (p.enums.map enT))),(26,.i p.enums.length),(27,.i j)]) (fun j=>glH (!Nat.beq j 0) (.cells [.t (ensT p.enums),.mp 1]) p.enums (flatS enumS (p.enums.take j))) trivial (fun j hlt _=>?_) (fun _=>?_) ⟨rfl,rfl,rfl,by rw[<-hm1];rfl,rfl,trivial⟩ rfl
  ·have hx:(p.enums.map enT)[j]?=some (.ag [.s p.enums[j].name,.sl 1 (p.enums[j].tags.map T.s)]):=at_map enT hlt
   have htk:=take_at hlt
   have hfl:=flatS_take enumS p.enums (j+1)
   rw[htk,flatS_snoc,List.length_append]at hfl
   have hj1:flatS enumS (p.enums.take (j+1))=flatS enumS (p.enums.take j)++enumS p.enums[j]:=by rw[htk,flatS_snoc]
   have hu:=hp.enums _ (List.getElem_mem hlt)
   have hnl:=hu.name
   have hjl:=hu.len
   have hjn:=joinP_sound p.enums[j].tags [32,124,32] (Nat.le_trans hu.few (by decide)) (Nat.le_trans hjl (by decide))
   have hee:enumS p.enums[j]=lineS 0 ([116,121,112,101,32]++p.enums[j].name++[32,61,32]++Go.Lib.join p.enums[j].tags [32,124,32]++[59]):=rfl
   have hadd:=add_sound (!Nat.beq j 0) p.enums (flatS enumS (p.enums.take j)) ([116,121,112,101,32]++p.enums[j].name++[32,61,32]++Go.Lib.join p.enums[j].tags [32,124,32]++[59]) 0 (by decide) (by rw[<-hee];omega)
   rw[<-hee]at hadd
   clear hee hu
   have hms:(p.enums[j].tags.map T.s).length=p.enums[j].tags.length:=List.length_map _
   generalize enumS p.enums[j]=ln at*
   generalize flatS enumS (p.enums.take j)=acc at*
   generalize Go.Lib.join p.enums[j].tags [32,124,32]=jn at*
   generalize p.enums[j]=u at*
   have hbj:(!Nat.beq (j+1) 0)=true:=rfl
   generalize (!Nat.beq j 0)=a at*
   repeat' (first|refine wkt ?_|(apply TO.indexAddr tabOk;(iterate 8 exact rfl);omega;exact hx)|exact wkc|intro hc|refine wk2 ?_ ?_|fail)
   apply TR.regionH (envF:=_) (HF:=glH true (.cells [.t (ensT p.enums),.mp 1]) p.enums (acc++ln)) [(_,false),(_,false),(_,false),(_,false),(_,false),(_,false),(_,false),(_,false),(_,false),(_,false),(_,true)] [glH a (.cells [.t (ensT p.enums),.mp 1]) p.enums acc,glH true (.cells [.t (ensT p.enums),.mp 1]) p.enums (acc++ln)] hmix
   case hB=>(dsimp only[List.map];decide +kernel)
   case h0=>exact rfl
   case hF=>exact rfl
   case hp=>
    repeat' (first|(refine And.intro (fun H hH env=>?_) ?_;rcases mem2J hH with rfl|rfl)|refine And.intro (fun env=>?_) ?_|refine wma ?_|refine wmv hjn ?_|(apply TO.lnC hadd;exact rfl;exact rfl;exact rfl;exact Les.refl _;exact rfl)|(apply TO.cat;exact rfl;exact rfl;exact rfl;(first|omega|(simp only[List.length_append,List.length_cons,List.length_nil];omega)))|exact trivial|exact And.intro rfl rfl|refine wmk ?_|fail)
    done
   case hE=>exact rfl
   case hK=>
    repeat' (first|refine wu ?_|exact wkc|intro hc|refine wk2 ?_ ?_|fail)
    exact LoopK.nextN hlt trivial (by(try dsimp only);exact⟨rfl,rfl,rfl,rfl,rfl,trivial⟩) (by(try dsimp only);rw[hj1,hbj])
  rw[List.take_length]
  repeat' (first|refine wkt ?_|refine LoopK.exit ?_|exact wkc|intro hc|refine wk2 ?_ ?_|fail)
  generalize flatS enumS p.enums=t0 at*
  generalize (!Nat.beq p.enums.length 0)=a0 at*
  refine TR.loopN p.nodes.length (fun _=>True) (fun j=>[(1,.cp [.sl 2 (p.enums.map enT),nodesT p.nodes] 0),(6,.tref lnT 4 2 0),(44,.t (nodesT p.nodes)),(45,.i p.nodes.length),(46,.i j)]) (fun j=>glH (a0 || !Nat.beq j 0) (.cells [.t (ensT p.enums),.mp 1]) p.enums (t0++flatS (nodeS p.enums) (p.nodes.take j))) trivial (fun j hlt _=>?_) (fun _=>?_) ⟨rfl,rfl,rfl,by rw[<-hm2];rfl,rfl,trivial⟩ (by simp[flatS])
  ·have hx:=at_nod hlt
   have htk:=take_at hlt
   have hfl:=flatS_take (nodeS p.enums) p.nodes (j+1)
   rw[htk,flatS_snoc,List.length_append]at hfl
   have hj1:t0++flatS (nodeS p.enums) (p.nodes.take (j+1))=t0++flatS (nodeS p.enums) (p.nodes.take j)++nodeS p.enums p.nodes[j]:=by rw[htk,flatS_snoc,List.append_assoc]
   have hs:=node_sound9 hp.es hp.ty (a0 || !Nat.beq j 0) (t0++flatS (nodeS p.enums) (p.nodes.take j)) _ (hp.nodes _ (List.getElem_mem hlt)) (by
    rw[List.length_append]
    omega)
   have hbj:(a0 || !Nat.beq (j+1) 0)=true:=by cases a0 <;> rfl
   generalize (a0 || !Nat.beq j 0)=a at*
   generalize t0++flatS (nodeS p.enums) (p.nodes.take j)=acc at*
   generalize nodeS p.enums p.nodes[j]=ln at*
   generalize p.nodes[j]=n at*
   rw[show nodT n= .ag (nodC n) from rfl]at hs
   unfold nodC at hx hs
   repeat' (first|refine wkt ?_|(apply TO.indexAddr tabOk;(iterate 8 exact rfl);omega;exact hx)|(apply TO.lnC hs;exact rfl;exact rfl;exact rfl;exact Les.refl _;exact rfl)|exact wkc|intro hc|refine wk2 ?_ ?_|refine wk ?_|fail)
   exact LoopK.nextN hlt trivial (by(try dsimp only);exact⟨rfl,rfl,rfl,rfl,rfl,trivial⟩) (by(try dsimp only);rw[hj1,hbj])
  ·rw[List.take_length]
   have hS:=bStringG (glH (a0 || !Nat.beq p.nodes.length 0) (.cells [.t (ensT p.enums),.mp 1]) p.enums (t0++flatS (nodeS p.enums) p.nodes)) 2 3 2 _ (t0++flatS (nodeS p.enums) p.nodes) hbl0 rfl rfl rfl
   generalize t0++flatS (nodeS p.enums) p.nodes=tx at*
   repeat' (first|(intro v H' h;cases h;done)|(intro v H' h;cases h)|refine wkt ?_|refine LoopK.exit ?_|exact wkc|intro hc|refine wk2 ?_ ?_|(apply TO.callA hS;exact rfl;exact rfl;exact rfl;exact⟨Le.refl _,trivial⟩)|refine wk ?_|fail)
   all_goals exact wkr
 ·rw[if_neg hz]
  generalize shapeX p=x at*
  unfold progC at*
  refine so Tryz.func9 ?_
  repeat' (first|refine wu ?_|exact wkc|intro hc|refine wk2 ?_ ?_|refine wv hsh ?_|fail)
  exact wkr
end Go.Proofs.YtjgmcnemcembmaaGreatDoor
