import Derived.Test.YtlocalghkiepmaaGreatPk15
import Derived.Test.YtlocalghkiepmaaGreatPk17
import Derived.Test.YtlocalghkiepmaaGreatPk18
import Derived.Test.YtlocalghkiepmaaGreatPk29
import Derived.Test.YtlocalghkiepmaaGreatPk30
import Derived.Test.YtlocalghkiepmaaGreatPk35
set_option linter.unusedSimpArgs false
set_option linter.unusedVariables false
namespace Go.Proofs.YtlocalghkiepmaaGreat
open Go Go.TL
attribute [local irreducible] TR TO Then InBlock RetK Sound LoopK Kf GG ThenL
theorem opKind_range(o:Int):opKind o=0/\opN o=0\/(opKind o=1\/opKind o=2\/opKind o=3\/opKind o=4)/\1≤opN o/\opN o≤2:=by
 have h1:=opKind_cases o
 have h2:=opN_cases o
 omega
theorem resultR_sound(o:Int)(ts:List Int):Pure Tryz.prog 142 [.i o,.t (intsT ts)] (.tup [.i (resultOp o ts).1,.i (resultOp o ts).2]):=by
 have hl:(ts.map T.i).length=ts.length:=List.length_map _
 have hop:=operands_sound o
 rcases opKind_range o with ⟨hk,hn⟩|⟨hk,hn⟩
 ·rw[show resultOp o ts=(0,2) from if_pos hk]
  rw[hn]at hop
  refine Sound.of tabOk Tryz.func142 (by kernel_rfl) rfl rfl ?_
  repeat' (first|refine wkt ?_|refine wk ?_|exact wkc|intro hc|refine wk2 ?_ ?_|refine wv hop ?_|fail)
  exact wkr
 by_cases h9:(ts.length:Int)≠opN o
 ·rw[show resultOp o ts=(0,9) from by simp only[resultOp];rw[if_neg (by omega),if_pos h9]]
  generalize opN o=n at*
  refine Sound.of tabOk Tryz.func142 (by kernel_rfl) rfl rfl ?_
  repeat' (first|refine wkt ?_|refine wk ?_|exact wkc|intro hc|refine wk2 ?_ ?_|refine wv hop ?_|fail)
  all_goals first
   | exact wkr
   | (exfalso;omega)
 have hr:resultOp o ts=if ts.all (okTy (opKind o) (ts.headD 0)) then(if opKind o=2 then 2 else 1,0) else(0,10):=by
  simp only[resultOp,if_neg (show ¬opKind o=0 from by omega)];exact if_neg h9
 have hlen:(ts.length:Int)=opN o:=by omega
 rw[hr]
 clear hr
 have hx0:(ts.map T.i)[(0:Int).toNat]?=some (T.i (ts.headD 0)):=by
  cases ts with
  | nil=>simp at hlen;omega
  | cons a l=>rfl
 have hm0:ts.headD 0∈ts:=by
  cases ts with
  | nil=>simp at hlen;omega
  | cons a l=>simp
 have hb1:=boolean_sound o
 have hb2:=equality_sound o
 have hb3:=arithmetic_sound o
 generalize ts.headD 0=t0 at hx0 hm0⊢
 generalize opN o=n at*
 clear h9
 rcases hk with hk|hk|hk|hk
 all_goals
  rw[hk]at hb1 hb2 hb3⊢
  simp only[Int.reduceEq,decide_true,decide_false,if_true,if_false]at hb1 hb2 hb3⊢
  refine Sound.of tabOk Tryz.func142 (by kernel_rfl) rfl rfl ?_
  repeat' (first|refine wkt ?_|refine wk ?_|exact wkc|intro hc|refine wk2 ?_ ?_|refine wv hop ?_|refine wv hb1 ?_|refine wv hb2 ?_|refine wv hb3 ?_|fail)
 all_goals first
  | (exfalso;omega)
  | skip
 ·refine TR.loopN ts.length (fun j=>(ts.take j).all (okTy 1 t0)=true) (fun j=>[(0,.i o),(1,.t (intsT ts)),(6,.i 1),(7,.i j)]) (fun _=>[]) rfl (fun j hlt ha=>?_) (fun ha=>?_)
  ·have hx:=at_ints hlt
   have htk:=List.take_succ_eq_append_getElem hlt
   have hm:=List.getElem_mem hlt
   generalize ts[j]=t at hx htk hm
   repeat' (first|refine wkt ?_|refine wk ?_|exact wkc|intro hc|refine wk2 ?_ ?_|fail|fail)
   ·have:ts.all (okTy 1 t0)=false:=List.all_eq_false.2 ⟨t,hm,by simpa [okTy]using hc⟩
    simp only[this];exact wkr
   ·skip
    refine LoopK.nextN hlt ?_;rw[htk,List.all_append,ha];simpa [okTy]using hc
  ·rw[List.take_length]at ha
   rw[ha]
   repeat' (first|refine wkt ?_|refine wk ?_|exact wkc|intro hc|refine wk2 ?_ ?_|refine wv hb3 ?_|fail)
   exact wkr
 ·refine TR.loopN ts.length (fun j=>(ts.take j).all (okTy 2 t0)=true) (fun j=>[(0,.i o),(1,.t (intsT ts)),(6,.i 2),(7,.i j)]) (fun _=>[]) rfl (fun j hlt ha=>?_) (fun ha=>?_)
  ·have hx:=at_ints hlt
   have htk:=List.take_succ_eq_append_getElem hlt
   have hm:=List.getElem_mem hlt
   generalize ts[j]=t at hx htk hm
   repeat' (first|refine wkt ?_|refine wk ?_|exact wkc|intro hc|refine wk2 ?_ ?_|fail|fail)
   ·have:ts.all (okTy 2 t0)=false:=List.all_eq_false.2 ⟨t,hm,by simpa [okTy]using hc⟩
    simp only[this];exact wkr
   ·refine LoopK.nextN hlt ?_;rw[htk,List.all_append,ha];simpa [okTy]using hc
  ·rw[List.take_length]at ha
   rw[ha]
   repeat' (first|refine wkt ?_|refine wk ?_|exact wkc|intro hc|refine wk2 ?_ ?_|refine wv hb3 ?_|fail)
   exact wkr
 ·have:ts.all (okTy 3 t0)=false:=List.all_eq_false.2 ⟨t0,hm0,by simp[okTy];omega⟩
  simp only[this];exact wkr
 ·refine TR.loopN ts.length (fun j=>(ts.take j).all (okTy 3 t0)=true) (fun j=>[(0,.i o),(1,.t (intsT ts)),(6,.i t0),(7,.i j)]) (fun _=>[]) rfl (fun j hlt ha=>?_) (fun ha=>?_)
  ·have hx:=at_ints hlt
   have htk:=List.take_succ_eq_append_getElem hlt
   have hm:=List.getElem_mem hlt
   generalize ts[j]=t at hx htk hm
   repeat' (first|refine wkt ?_|refine wk ?_|exact wkc|intro hc|refine wk2 ?_ ?_|fail|fail)
   ·have:ts.all (okTy 3 t0)=false:=List.all_eq_false.2 ⟨t,hm,by simp[okTy];omega⟩
    simp only[this];exact wkr
   ·refine LoopK.nextN hlt ?_;rw[htk,List.all_append,ha];simp[okTy];omega
  ·rw[List.take_length]at ha
   rw[ha]
   repeat' (first|refine wkt ?_|refine wk ?_|exact wkc|intro hc|refine wk2 ?_ ?_|refine wv hb3 ?_|fail)
   exact wkr
 ·refine TR.loopN ts.length (fun j=>(ts.take j).all (okTy 4 t0)=true) (fun j=>[(0,.i o),(1,.t (intsT ts)),(6,.i 2),(7,.i j)]) (fun _=>[]) rfl (fun j hlt ha=>?_) (fun ha=>?_)
  ·have hx:=at_ints hlt
   have htk:=List.take_succ_eq_append_getElem hlt
   have hm:=List.getElem_mem hlt
   generalize ts[j]=t at hx htk hm
   repeat' (first|refine wkt ?_|refine wk ?_|exact wkc|intro hc|refine wk2 ?_ ?_|fail|fail)
   ·have:ts.all (okTy 4 t0)=false:=List.all_eq_false.2 ⟨t,hm,by simpa [okTy]using hc⟩
    simp only[this];exact wkr
   ·refine LoopK.nextN hlt ?_;rw[htk,List.all_append,ha];simpa [okTy]using hc
  ·rw[List.take_length]at ha
   rw[ha]
   repeat' (first|refine wkt ?_|refine wk ?_|exact wkc|intro hc|refine wk2 ?_ ?_|refine wv hb3 ?_|fail)
   exact wkr
theorem oneR_sound'(w:Plc)(l:List Ex)(hl:l.length≤1000000000)(ih:∀x∈l,Pure Tryz.prog 77 [.t (.ag (progC w.p)),.i w.node.1,.t (declsT w.env),.t (exT x),.b true] (.tup [.t (intsT (resT w true x).1),.i (resT w true x).2])):
  Pure Tryz.prog 141 [.t (.ag (progC w.p)),.i w.node.1,.t (declsT w.env),.t (.sl 6 (l.map exT))] (.tup [.t (intsT (heads (l.map (resT w true))).1),.i (heads (l.map (resT w true))).2]):=by
 have hml:(l.map exT).length=l.length:=List.length_map _
 have hR:∀x,(resT w true x).2=0->(resT w true x).1.length=1:=fun x=>resT_one
 generalize resT w true=R at ih hR⊢
 unfold progC at*
 refine Sound.of tabOk Tryz.func141 (by kernel_rfl) rfl rfl ?_
 repeat' (first|refine wkt ?_|refine wk ?_|exact wkc|intro hc|refine wk2 ?_ ?_|fail)
 refine TR.tail 1 10 rfl ?_
 refine TR.loopN l.length (fun k=>(heads ((l.take k).map R)).2=0) (fun k=>[(1,.i w.node.1),(2,.t (declsT w.env)),(3,.t (.sl 6 (l.map exT))),(4,.cp [.sl 2 (w.p.enums.map enT),nodesT w.p.nodes] 0),(10,.sl 1 (((heads ((l.take k).map R)).1).map T.i) 0),(11,.i k)])
  (fun k=>[.tail (((heads ((l.take k).map R)).1).map T.i).length]) rfl (fun k hlt ha=>?_) (fun ha=>?_) ⟨rfl,rfl,rfl,rfl,rfl,rfl,trivial⟩
 ·have hx:=at_exT hlt
  have hs:=ih l[k] (List.getElem_mem hlt)
  have hr:=hR l[k]
  have htk:heads ((l.take (k+1)).map R)=if(R l[k]).2≠0 then([],(R l[k]).2) else((heads ((l.take k).map R)).1++[(R l[k]).1.headD 0],0):=by
   rw[take_at hlt,List.map_append,heads_append,if_neg (by simpa using ha)]
   by_cases h:(R l[k]).2=0
   ·simp[heads,h]
   ·simp[heads,h]
  have hbad:(R l[k]).2≠0->heads (l.map R)=([],(R l[k]).2):=by
   intro h
   conv=>lhs;rw[<-List.take_append_drop (k+1) l]
   rw[List.map_append,heads_append,htk,if_pos h]
   simp[h]
  have hlen:(heads ((l.take k).map R)).1.length=k:=by rw[heads_len _ ha];simp;omega
  have hlenm:((heads ((l.take k).map R)).1.map T.i).length=k:=by rw[List.length_map,hlen]
  rw[exT_eq]at hs
  generalize R l[k]=r at*
  obtain⟨rl,re⟩:=r
  simp only at hs hr htk hbad
  generalize l[k]=x at*
  unfold exC at hx hs
  generalize (heads ((l.take k).map R)).1=acc at*
  by_cases he:re=0
  ·obtain⟨t0,rfl⟩:∃t0,rl=[t0]:=by
    have:=hr he
    match rl,this with
    | [a],_=>exact⟨a,rfl⟩
   subst he
   rw[if_neg (by simp)]at htk
   repeat' (first|refine wkt ?_|fail)
   refine wk2 ?_ ?_
   ·intro hc
    first|refine wkt ?_|refine wk ?_
    refine TR.regionM (envF:=?envF) (HF:=[.tail (acc.map T.i).length]) [(.t (.ag [.sl 2 (w.p.enums.map enT),nodesT w.p.nodes]),false),(.i w.node.1,false),(.t (declsT w.env),false),(.t (.sl 6 (l.map exT)),false),(.i k,false),(.cp [T.n x.kind,T.n x.op,T.n x.t,T.n x.v,.s x.name,.sl 6 (x.args.map exT)] 0,false),(.t (.ag [T.n x.kind,T.n x.op,T.n x.t,T.n x.v,.s x.name,.sl 6 (x.args.map exT)]),false),(.tup [.t (intsT [t0]),.i 0],true),(.tup [.t (intsT [t0]),.i 0],false),(.t (intsT [t0]),false),(.i 0,false),(.t (intsT [t0]),false),(.i 0,false)] [[.tail (acc.map T.i).length],[.tail (acc.map T.i).length]] hmix ?hB ?h0 ?hp ?hF ?hE ?hK
    case hB=>(dsimp only[List.map];decide +kernel)
    case h0=>exact rfl
    case hF=>exact rfl
    case hE=>exact rfl
    case hp=>repeat' (first|refine wkt ?_|refine wk ?_|exact wkc|intro hc|refine wk2 ?_ ?_|refine wv hs ?_|exact trivial|exact And.intro rfl rfl|refine And.intro (fun H env=>?_) ?_|refine And.intro (fun env=>?_) ?_|fail)
    case hK=>
     repeat' (first|refine wkt ?_|refine wk ?_|exact wkc|intro hc|refine wk2 ?_ ?_|refine wv hs ?_|exact trivial|exact And.intro rfl rfl|refine And.intro (fun H env=>?_) ?_|refine And.intro (fun env=>?_) ?_|fail)
     exact LoopK.nextN hlt (by rw[htk]) (by rw[htk,List.map_append];exact⟨rfl,rfl,rfl,rfl,rfl,rfl,trivial⟩) (by rw[htk,List.map_append,List.length_append];rfl)
   ·exact wkc
  ·rw[hbad he]
   repeat' (first|refine wkt ?_|fail)
   refine wk2 ?_ ?_
   ·intro hc
    first|refine wkt ?_|refine wk ?_
    refine TR.regionM (envF:=?envG) (HF:=[.tail (acc.map T.i).length]) [(.t (.ag [.sl 2 (w.p.enums.map enT),nodesT w.p.nodes]),false),(.i w.node.1,false),(.t (declsT w.env),false),(.t (.sl 6 (l.map exT)),false),(.i k,false),(.cp [T.n x.kind,T.n x.op,T.n x.t,T.n x.v,.s x.name,.sl 6 (x.args.map exT)] 0,false),(.t (.ag [T.n x.kind,T.n x.op,T.n x.t,T.n x.v,.s x.name,.sl 6 (x.args.map exT)]),false),(.tup [.t (intsT rl),.i re],true),(.tup [.t (intsT rl),.i re],false),(.t (intsT rl),false),(.i re,false),(.t (intsT rl),false),(.i re,false)] [[.tail (acc.map T.i).length],[.tail (acc.map T.i).length]] hmix ?hB ?h0 ?hp ?hF ?hE ?hK
    case hB=>(dsimp only[List.map];decide +kernel)
    case h0=>exact rfl
    case hF=>exact rfl
    case hE=>exact rfl
    case hp=>repeat' (first|refine wkt ?_|refine wk ?_|exact wkc|intro hc|refine wk2 ?_ ?_|refine wv hs ?_|exact trivial|exact And.intro rfl rfl|refine And.intro (fun H env=>?_) ?_|refine And.intro (fun env=>?_) ?_|fail)
    case hK=>
     repeat' (first|refine wkt ?_|refine wk ?_|exact wkc|intro hc|refine wk2 ?_ ?_|refine wv hs ?_|exact trivial|exact And.intro rfl rfl|refine And.intro (fun H env=>?_) ?_|refine And.intro (fun env=>?_) ?_|fail)
     exact wkr
   ·exact wkc
 ·rw[List.take_length]at ha⊢
  rw[ha]
  repeat' (first|refine wkt ?_|refine wk ?_|exact wkc|intro hc|refine wk2 ?_ ?_|fail)
  exact wkr
theorem callR_sound(w:Plc)(hw:SmallW w)(e:Ex)(l:List Int)(inner:Bool)(hv:e.v.1=0\/e.v.1=1):Pure Tryz.prog 145 [.t (.ag (progC w.p)),.i w.node.1,.t (.ag (exC e)),.t (intsT l),.b inner] (.tup [.t (intsT (callT w e l inner).1),.i (callT w e l inner).2]):=by
 have hs:=findR_sound w.p e.name (by have:=hw.nodes;omega)
 unfold callT
 unfold progC at*
 cases hf:(findN w.p e.name).2 with
 | false=>
   rw[hf]at hs
   rw[if_pos (.inl rfl)]
   unfold exC
   refine Sound.of tabOk Tryz.func145 (by kernel_rfl) rfl rfl ?_
   repeat' (first|refine wkt ?_|refine wk ?_|exact wkc|intro hc|refine wk2 ?_ ?_|refine wv hs ?_|fail)
   exact wkr
 | true=>
   obtain⟨k,hk,hf'⟩:=findN_some hf
   rw[hf']at hs⊢
   simp only[Bool.true_eq_false,false_or,Int.toNat_natCast,List.getElem?_eq_getElem hk]at hs⊢
   have hn:=hw.each w.p.nodes[k] (List.getElem_mem hk)
   have hx:=at_nod hk
   generalize w.p.nodes[k]=n at hn hx⊢
   have hmi:(n.ins.map declT).length=n.ins.length:=List.length_map _
   have hmo:(n.outs.map declT).length=n.outs.length:=List.length_map _
   have hml:(l.map T.i).length=l.length:=List.length_map _
   have hi:=hn.ins
   have ho:=hn.outs
   unfold exC
   unfold nodC at hx
   by_cases hnode:w.node.1≤(k:Int)
   ·rw[if_pos hnode]
    refine Sound.of tabOk Tryz.func145 (by kernel_rfl) rfl rfl ?_
    repeat' (first|refine wkt ?_|refine wk ?_|exact wkc|intro hc|refine wk2 ?_ ?_|refine wv hs ?_|fail)
    exact wkr
   ·rw[if_neg hnode]
    by_cases h9:(l.length:Int)≠n.ins.length+e.v.1\/(inner=true/\n.outs.length≠1)
    ·rw[if_pos h9]
     cases inner
     all_goals
      refine Sound.of tabOk Tryz.func145 (by kernel_rfl) rfl rfl ?_
      repeat' (first|refine wkt ?_|refine wk ?_|exact wkc|intro hc|refine wk2 ?_ ?_|refine wv hs ?_|fail)
      all_goals first
       | exact wkr
       | (exfalso;simp at h9;omega)
    ·rw[if_neg h9]
     have h91:(l.length:Int)=n.ins.length+e.v.1:=by
      refine Classical.byContradiction fun h=>h9 (.inl h)
     have h92:inner=true->n.outs.length=1:=fun h=>Classical.byContradiction fun h'=>h9 (.inr ⟨h,h'⟩)
     clear h9
     have hlb:l.length≤100000001:=by omega
     cases inner
     all_goals
      try replace h92:=h92 rfl
      refine Sound.of tabOk Tryz.func145 (by kernel_rfl) rfl rfl ?_
      repeat' (first|refine wkt ?_|refine wk ?_|exact wkc|intro hc|refine wk2 ?_ ?_|refine wv hs ?_|fail)
      refine TR.loopN n.ins.length (fun j=>insOk n.ins l=insOk (n.ins.drop j) (l.drop j)) (fun j=>[(3,.t (intsT l)),(7,.cp [T.n e.kind,T.n e.op,T.n e.t,T.n e.v,.s e.name,.sl 6 (e.args.map exT)] 0),(14,.cp (nodC n) 0),(15,.i j)]) (fun _=>[]) rfl (fun j hlt ha=>?_) (fun ha=>?_) ⟨rfl,rfl,rfl,rfl,trivial⟩
      ·have hj:j<l.length:=by omega
       have hx1:=at_decl hlt
       have hx2:=at_ints hj
       rw[List.drop_eq_getElem_cons hlt,List.drop_eq_getElem_cons hj,insOk]at ha
       generalize n.ins[j]=d at hx1 ha
       generalize l[j]=t at hx2 ha
       unfold declC at hx1
       unfold nodC
       rw[ha]
       repeat' (first|refine wkt ?_|refine wk ?_|exact wkc|intro hc|refine wk2 ?_ ?_|fail|fail)
       ·rw[if_pos (by simp[hc])]
        exact wkr
       ·refine LoopK.nextC 0 hlt ?_ rfl rfl rfl rfl rfl
        simp[show t=d.ty.1 from by simpa using hc]
      ·rw[List.drop_of_length_le (Nat.le_refl _)]at ha
       rw[show insOk n.ins l=true from by rw[ha];rfl]
       simp only[Bool.true_eq_false,if_false]
       unfold nodC
       have hgo:e.v.1=1->(l.map T.i)[((n.ins.map declT).length:Int).toNat]?=some (T.i (l.getD n.ins.length 0)):=by
        intro h1
        have:n.ins.length<l.length:=by omega
        rw[hmi]
        simp[this]
       by_cases hb:e.v.1=1/\l.getD n.ins.length 0≠1
       ·rw[if_pos hb]
        have hxx:=hgo hb.1
        repeat' (first|refine wkt ?_|refine wk ?_|exact wkc|intro hc|refine wk2 ?_ ?_|fail|fail)
        all_goals first
         | exact wkr
         | (exfalso;exact hb.2 (by simpa using hc))
         | (exfalso;exact hc hb.1)
       ·rw[if_neg hb]
        have hl1:e.v.1=1->l.getD n.ins.length 0=1:=fun h1=>Classical.byContradiction fun h=>hb ⟨h1,h⟩
        by_cases hv1:e.v.1=1
        all_goals
         try(have hxx:=hgo hv1;rw[hl1 hv1]at hxx)
         clear hgo hb hl1
         repeat' (first|refine wkt ?_|refine wk ?_|exact wkc|intro hc|refine wk2 ?_ ?_|fail|fail)
         refine TR.tail 1 16 rfl ?_
         refine TR.loopN n.outs.length (fun _=>True) (fun j=>[(14,.cp (nodC n) 0),(16,.sl 1 (((n.outs.take j).map (·.ty.1)).map T.i) 0),(17,.i j)]) (fun j=>[.tail (((n.outs.take j).map (·.ty.1)).map T.i).length]) trivial (fun j hlt _=>?_) (fun _=>?_) ⟨rfl,rfl,rfl,trivial⟩
         ·have hx1:=at_decl hlt
          have htk:((n.outs.take (j+1)).map (·.ty.1)).map T.i=((n.outs.take j).map (·.ty.1)).map T.i++[T.i n.outs[j].ty.1]:=by rw[take_at hlt];simp only[List.map_append,List.map_cons,List.map_nil]
          have hmk:(((n.outs.take j).map (·.ty.1)).map T.i).length≤100000000:=by simp;omega
          generalize n.outs[j]=d at hx1 htk
          unfold declC at hx1
          unfold nodC
          repeat' (first|refine wkt ?_|refine wk ?_|exact wkc|intro hc|refine wk2 ?_ ?_|fail|fail)
          exact LoopK.nextN hlt trivial (by rw[htk];exact⟨rfl,rfl,rfl,trivial⟩) (by rw[htk,List.length_append];rfl)
         ·rw[List.take_length]
          unfold nodC
          repeat' (first|refine wkt ?_|refine wk ?_|exact wkc|intro hc|refine wk2 ?_ ?_|fail|fail)
          exact wkr
abbrev ArgsR (w:Plc)(e:Ex)(l:List Int)(f:Int):Prop:=Pure Tryz.prog 141 [.t (.ag (progC w.p)),.i w.node.1,.t (declsT w.env),.t (.sl 6 (e.args.map exT))] (.tup [.t (intsT l),.i f])
abbrev ResR (w:Plc)(e:Ex)(inner:Bool)(r:List Int×Int):Prop:=Pure Tryz.prog 77 [.t (.ag (progC w.p)),.i w.node.1,.t (declsT w.env),.t (.ag (exC e)),.b inner] (.tup [.t (intsT r.1),.i r.2])
theorem resR_bad{w:Plc}{e:Ex}{l:List Int}{f:Int}(hf:f≠0)(hargs:ArgsR w e l f)(inner:Bool):ResR w e inner ([],f):=by
 unfold ArgsR ResR progC exC at*
 refine Sound.of tabOk Tryz.func77 (by kernel_rfl) rfl rfl ?_
 repeat' (first|refine wkt ?_|refine wk ?_|exact wkc|intro hc|refine wk2 ?_ ?_|refine wv hargs ?_|fail)
 exact wkr
theorem resR_1{w:Plc}{e:Ex}{l:List Int}(hargs:ArgsR w e l 0)(h1:e.kind.1=1)(inner:Bool):ResR w e inner ([e.t.1],0):=by
 unfold ArgsR ResR progC exC at*
 refine Sound.of tabOk Tryz.func77 (by kernel_rfl) rfl rfl ?_
 repeat' (first|refine wkt ?_|refine wk ?_|exact wkc|intro hc|refine wk2 ?_ ?_|refine wv hargs ?_|fail)
 exact wkr
theorem resR_11{w:Plc}{e:Ex}{l:List Int}(hargs:ArgsR w e l 0)(h1:e.kind.1=11)(inner:Bool):ResR w e inner ([1],0):=by
 unfold ArgsR ResR progC exC at*
 refine Sound.of tabOk Tryz.func77 (by kernel_rfl) rfl rfl ?_
 repeat' (first|refine wkt ?_|refine wk ?_|exact wkc|intro hc|refine wk2 ?_ ?_|refine wv hargs ?_|fail)
 exact wkr
theorem resR_2{w:Plc}{e:Ex}{l:List Int}(hargs:ArgsR w e l 0)(h2:e.kind.1=2)(hw:SmallW w)(inner:Bool):ResR w e inner (if(lookT w.env e.name).2=false then([],6) else([(lookT w.env e.name).1],0)):=by
 have hto:=typeR_sound w.env e.name hw.env
 unfold ArgsR ResR progC exC at*
 cases hb:(lookT w.env e.name).2
 all_goals
  rw[hb]at hto
  simp only[Bool.true_eq_false,if_true,if_false]
  refine Sound.of tabOk Tryz.func77 (by kernel_rfl) rfl rfl ?_
  repeat' (first|refine wkt ?_|refine wk ?_|exact wkc|intro hc|refine wk2 ?_ ?_|refine wv hargs ?_|refine wv hto ?_|fail)
  exact wkr
theorem resR_3{w:Plc}{e:Ex}{l:List Int}(hargs:ArgsR w e l 0)(h3:e.kind.1=3)(inner:Bool):ResR w e inner (if(resultOp e.op.1 l).2≠0 then([],(resultOp e.op.1 l).2) else([(resultOp e.op.1 l).1],0)):=by
 have hres:=resultR_sound e.op.1 l
 unfold ArgsR ResR progC exC at*
 by_cases hr:(resultOp e.op.1 l).2=0
 ·rw[if_neg (by simp[hr])]
  rw[hr]at hres
  refine Sound.of tabOk Tryz.func77 (by kernel_rfl) rfl rfl ?_
  repeat' (first|refine wkt ?_|refine wk ?_|exact wkc|intro hc|refine wk2 ?_ ?_|refine wv hargs ?_|refine wv hres ?_|fail)
  exact wkr
 ·rw[if_pos hr]
  generalize (resultOp e.op.1 l).2=f at hr hres⊢
  refine Sound.of tabOk Tryz.func77 (by kernel_rfl) rfl rfl ?_
  repeat' (first|refine wkt ?_|refine wk ?_|exact wkc|intro hc|refine wk2 ?_ ?_|refine wv hargs ?_|refine wv hres ?_|fail)
  exact wkr
theorem resR_4{w:Plc}{e:Ex}{l:List Int}(hargs:ArgsR w e l 0)(h4:e.kind.1=4)(hll:l.length=3)(inner:Bool):ResR w e inner (if l.getD 0 0≠1\/l.getD 1 0≠l.getD 2 0 then([],10) else([l.getD 1 0],0)):=by
 unfold ArgsR ResR progC exC at*
 obtain⟨a,b,c,rfl⟩:∃a b c,l=[a,b,c]:=by
  match l,hll with
  | [a,b,c],_=>exact⟨a,b,c,rfl⟩
 clear hll
 simp only[List.getD_cons_zero,List.getD_cons_succ]
 by_cases hr:a≠1\/b≠c
 ·rw[if_pos hr]
  refine Sound.of tabOk Tryz.func77 (by kernel_rfl) rfl rfl ?_
  repeat' (first|refine wkt ?_|refine wk ?_|exact wkc|intro hc|refine wk2 ?_ ?_|refine wv hargs ?_|(apply Go.TL.TO.ssl_hi tabOk (b:=1);exact rfl;exact rfl;exact rfl;exact rfl;exact rfl;exact rfl;exact rfl;exact rfl;omega)|(apply Go.TL.TO.ssl2 tabOk (a:=1) (b:=2);exact rfl;exact rfl;exact rfl;exact rfl;exact rfl;exact rfl;exact rfl;exact rfl;exact rfl;omega;omega)|fail)
  all_goals first
   | exact wkr
   | (exfalso;grind)
 ·rw[if_neg hr]
  obtain⟨rfl,rfl⟩:a=1/\b=c:=by
   refine⟨Classical.byContradiction fun h=>hr (.inl h),Classical.byContradiction fun h=>hr (.inr h)⟩
  have hl3:([1,b,b].map T.i).length=3:=rfl
  refine Sound.of tabOk Tryz.func77 (by kernel_rfl) rfl rfl ?_
  repeat' (first|refine wkt ?_|refine wk ?_|exact wkc|intro hc|refine wk2 ?_ ?_|refine wv hargs ?_|(apply Go.TL.TO.ssl_hi tabOk (b:=1);exact rfl;exact rfl;exact rfl;exact rfl;exact rfl;exact rfl;exact rfl;exact rfl;omega)|(apply Go.TL.TO.ssl2 tabOk (a:=1) (b:=2);exact rfl;exact rfl;exact rfl;exact rfl;exact rfl;exact rfl;exact rfl;exact rfl;exact rfl;omega;omega)|fail)
  all_goals first
   | exact wkr
   | (exfalso;simp_all;done)
   | (exfalso;grind)
theorem resR_55{w:Plc}{e:Ex}{l:List Int}(hargs:ArgsR w e l 0)(h5:e.kind.1=5)(hll:l.length=1)(inner:Bool):ResR w e inner (if eqAll l=false then([],10) else([l.headD 0],0)):=by
 unfold ArgsR ResR progC exC at*
 obtain⟨a,rfl⟩:∃a,l=[a]:=by
  match l,hll with
  | [a],_=>exact⟨a,rfl⟩
 clear hll
 rw[if_neg (by simp[eqAll])]
 simp only[List.headD_cons]
 refine Sound.of tabOk Tryz.func77 (by kernel_rfl) rfl rfl ?_
 repeat' (first|refine wkt ?_|refine wk ?_|exact wkc|intro hc|refine wk2 ?_ ?_|refine wv hargs ?_|fail)
 exact wkr
theorem resR_5{w:Plc}{e:Ex}{l:List Int}(hargs:ArgsR w e l 0)(h5:e.kind.1=6\/e.kind.1=7)(hll:1≤l.length)(hlb:l.length≤1000000000)(inner:Bool):ResR w e inner (if eqAll l=false then([],10) else([l.headD 0],0)):=by
 have heqf:=fun a r (h:l=a::r)=>alikeR_sound a r (by have:=hlb;rw[h]at this;simp at this;omega)
 unfold ArgsR ResR progC exC at*
 obtain⟨a,r,rfl⟩:∃a r,l=a::r:=by
  match l,hll with
  | a::r,_=>exact⟨a,r,rfl⟩
 have heq:=heqf a r rfl
 have hl1:((a::r).map T.i).length=r.length+1:=by simp
 clear hll heqf
 simp only[List.headD_cons]
 cases hq:eqAll (a::r)
 all_goals
  rw[hq]at heq
  simp only[Bool.true_eq_false,if_true,if_false]
  rcases h5 with h5|h5
  all_goals
   refine Sound.of tabOk Tryz.func77 (by kernel_rfl) rfl rfl ?_
   repeat' (first|refine wkt ?_|refine wk ?_|exact wkc|intro hc|refine wk2 ?_ ?_|refine wv hargs ?_|refine wv heq ?_|(apply Go.TL.TO.ssl_hi tabOk (b:=1);exact rfl;exact rfl;exact rfl;exact rfl;exact rfl;exact rfl;exact rfl;exact rfl;omega)|(apply Go.TL.TO.ssl2 tabOk (a:=1) (b:=2);exact rfl;exact rfl;exact rfl;exact rfl;exact rfl;exact rfl;exact rfl;exact rfl;exact rfl;omega;omega)|fail)
   exact wkr
theorem resR_8{w:Plc}{e:Ex}{l:List Int}(hargs:ArgsR w e l 0)(h8:e.kind.1=8\/e.kind.1=9)(hw:SmallW w)(hll:1≤l.length)(hlb:l.length≤1000000000)(inner:Bool):ResR w e inner (if clockT w.env e.name e.t.1≠0 then([],clockT w.env e.name e.t.1) else if eqAll l=false then([],10) else([l.headD 0],0)):=by
 have heqf:=fun a r (h:l=a::r)=>alikeR_sound a r (by have:=hlb;rw[h]at this;simp at this;omega)
 have hck:=variableR_sound w.env e.name e.t.1 hw.env
 unfold ArgsR ResR progC exC at*
 obtain⟨a,r,rfl⟩:∃a r,l=a::r:=by
  match l,hll with
  | a::r,_=>exact⟨a,r,rfl⟩
 have heq:=heqf a r rfl
 have hl1:((a::r).map T.i).length=r.length+1:=by simp
 clear hll heqf
 simp only[List.headD_cons]
 generalize clockT w.env e.name e.t.1=c at hck⊢
 by_cases hc0:c=0
 ·subst hc0
  rw[if_neg (by simp)]
  cases hq:eqAll (a::r)
  all_goals
   rw[hq]at heq
   simp only[Bool.true_eq_false,if_true,if_false]
   rcases h8 with h5|h5
   all_goals
    refine Sound.of tabOk Tryz.func77 (by kernel_rfl) rfl rfl ?_
    repeat' (first|refine wkt ?_|refine wk ?_|exact wkc|intro hc|refine wk2 ?_ ?_|refine wv hargs ?_|refine wv heq ?_|refine wv hck ?_|(apply Go.TL.TO.ssl_hi tabOk (b:=1);exact rfl;exact rfl;exact rfl;exact rfl;exact rfl;exact rfl;exact rfl;exact rfl;omega)|(apply Go.TL.TO.ssl2 tabOk (a:=1) (b:=2);exact rfl;exact rfl;exact rfl;exact rfl;exact rfl;exact rfl;exact rfl;exact rfl;exact rfl;omega;omega)|fail)
    exact wkr
 ·rw[if_pos hc0]
  rcases h8 with h5|h5
  all_goals
   refine Sound.of tabOk Tryz.func77 (by kernel_rfl) rfl rfl ?_
   repeat' (first|refine wkt ?_|refine wk ?_|exact wkc|intro hc|refine wk2 ?_ ?_|refine wv hargs ?_|refine wv hck ?_|(apply Go.TL.TO.ssl_hi tabOk (b:=1);exact rfl;exact rfl;exact rfl;exact rfl;exact rfl;exact rfl;exact rfl;exact rfl;omega)|(apply Go.TL.TO.ssl2 tabOk (a:=1) (b:=2);exact rfl;exact rfl;exact rfl;exact rfl;exact rfl;exact rfl;exact rfl;exact rfl;exact rfl;omega;omega)|fail)
   exact wkr
theorem resR_10{w:Plc}{e:Ex}{l:List Int}(hargs:ArgsR w e l 0)(h10:e.kind.1=10)(hw:SmallW w)(hv:e.v.1=0\/e.v.1=1)(inner:Bool):ResR w e inner (callT w e l inner):=by
 have hcal:=callR_sound w hw e l inner hv
 unfold ArgsR ResR progC exC at*
 refine Sound.of tabOk Tryz.func77 (by kernel_rfl) rfl rfl ?_
 repeat' (first|refine wkt ?_|refine wk ?_|exact wkc|intro hc|refine wk2 ?_ ?_|refine wv hargs ?_|refine wv hcal ?_|fail)
 exact wkr
theorem resultsR_sound'(w:Plc)(hw:SmallW w):∀(m:Nat) (e:Ex),wEx e≤m->wEx e≤1000000000->(∀x∈flat e,Arity x)->∀inner,Pure Tryz.prog 77 [.t (.ag (progC w.p)),.i w.node.1,.t (declsT w.env),.t (exT e),.b inner] (.tup [.t (intsT (resT w inner e).1),.i (resT w inner e).2]):=by
 intro m
 induction m with
 | zero=>intro e he;have:=wEx_pos e;omega
 | succ m ih0=>
   intro e he hb har inner
   have hlb:=wEx_args e
   have hA:Arity e:=har e (by rw[flat_eq];exact List.mem_cons_self)
   have hargs:=oneR_sound' w e.args (by omega) (fun x hx=>ih0 x (by have:=wEx_arg hx;omega) (by have:=wEx_arg hx;omega) (fun y hy=>har y (by
    rw[flat_eq]
    refine List.mem_cons_of_mem _ ?_
    unfold flats
    exact List.mem_flatten.2 ⟨flat x,List.mem_map.2 ⟨x,hx,rfl⟩,hy⟩)) true)
   clear ih0 har
   have hhl:(heads (e.args.map (resT w true))).2=0->(heads (e.args.map (resT w true))).1.length=e.args.length:=fun h=>by rw[heads_len _ h];simp
   rw[resT_eq]
   generalize heads (e.args.map (resT w true))=h at*
   obtain⟨l,f⟩:=h
   simp only at*
   rw[exT_eq]
   by_cases hf:f=0
   ·subst hf
    rw[if_neg (by simp)]
    have hll:=hhl rfl
    unfold kindT
    have hk:=hA.kind
    have h5':=hA.k5
    have h7':=hA.more
    by_cases h1:e.kind.1=1
    ·rw[if_pos h1]
     exact resR_1 hargs h1 inner
    rw[if_neg h1]
    by_cases h11:e.kind.1=11
    ·rw[if_pos h11]
     exact resR_11 hargs h11 inner
    rw[if_neg h11]
    by_cases h2:e.kind.1=2
    ·rw[if_pos h2]
     exact resR_2 hargs h2 hw inner
    rw[if_neg h2]
    by_cases h3:e.kind.1=3
    ·rw[if_pos h3]
     exact resR_3 hargs h3 inner
    rw[if_neg h3]
    by_cases h4:e.kind.1=4
    ·rw[if_pos h4]
     exact resR_4 hargs h4 (by rw[hll];exact hA.k4 h4) inner
    rw[if_neg h4]
    by_cases h5:e.kind.1=5\/e.kind.1=6\/e.kind.1=7
    ·rw[if_pos h5]
     by_cases h55:e.kind.1=5
     ·exact resR_55 hargs h55 (by rw[hll];exact h5' h55) inner
     exact resR_5 hargs (by omega) (by rcases Decidable.em (e.kind.1=5)with h|h <;> omega) (by omega) inner
    rw[if_neg h5]
    by_cases h8:e.kind.1=8\/e.kind.1=9
    ·rw[if_pos h8]
     exact resR_8 hargs h8 hw (by rw[hll];have:=h7' (by omega) (by omega);omega) (by omega) inner
    rw[if_neg h8]
    exact resR_10 hargs (by omega) hw (hA.v (by omega)) inner
   ·rw[if_pos hf]
    exact resR_bad hf hargs inner
theorem resultsR_sound(w:Plc)(hw:SmallW w)(e:Ex)(hb:wEx e≤1000000000)(har:∀x∈flat e,Arity x)(inner:Bool):Pure Tryz.prog 77 [.t (.ag (progC w.p)),.i w.node.1,.t (declsT w.env),.t (exT e),.b inner] (.tup [.t (intsT (resT w inner e).1),.i (resT w inner e).2]):=resultsR_sound' w hw (wEx e) e (Nat.le_refl _) hb har inner
theorem cond11_sound(w:Plc)(hw:SmallW w)(c:Ex)(hc:ExT c):Pure Tryz.prog 80 [.t (.ag (progC w.p)),.i w.node.1,.t (declsT w.env),.t (.ag (exC c))] (.i (condT w c)):=by
 have hs:=resultsR_sound w hw c hc.1 hc.2 false
 unfold condT
 generalize resT w false c=r at*
 obtain⟨l,f⟩:=r
 rw[exT_eq]at hs
 simp only at*
 have hml:(l.map T.i).length=l.length:=List.length_map _
 have hx0:0<l.length->(l.map T.i)[(0:Int).toNat]?=some (T.i (l.headD 0)):=by cases l with|nil=>simp|cons a l=>intro _;rfl
 generalize l.headD 0=t0 at*
 unfold exC progC at*
 clear hc
 by_cases hl:l.length=1
 ·have hx:=hx0 (by omega)
  refine Sound.of tabOk Tryz.func80 (by kernel_rfl) rfl rfl ?_
  repeat' (first|refine wkt ?_|refine wk ?_|exact wkc|intro hc|refine wk2 ?_ ?_|refine wv hs ?_|fail)
  all_goals(refine RetK.pure rfl (Le.of_eq ?_) rfl;refine congrArg (fun z=>SV.t (T.v (Value.int IntKind.i64 z))) ?_;clear hs;grind)
 ·refine Sound.of tabOk Tryz.func80 (by kernel_rfl) rfl rfl ?_
  repeat' (first|refine wkt ?_|refine wk ?_|exact wkc|intro hc|refine wk2 ?_ ?_|refine wv hs ?_|fail)
  all_goals(refine RetK.pure rfl (Le.of_eq ?_) rfl;refine congrArg (fun z=>SV.t (T.v (Value.int IntKind.i64 z))) ?_;clear hs;grind)
theorem trans11_sound(w:Plc)(hw:SmallW w)(l:List Tran)(hl:l.length≤1000000000)(hc:∀t∈l,ExT t.cond):Pure Tryz.prog 146 [.t (.ag (progC w.p)),.i w.node.1,.t (declsT w.env),.t (.sl 8 (l.map tranT))] (.i (firstE (fun t:Tran=>condT w t.cond) l)):=by
 have hml:(l.map tranT).length=l.length:=List.length_map _
 have he:=fun(t:Tran) (ht:t∈l)=>cond11_sound w hw t.cond (hc t ht)
 unfold progC at*
 refine Sound.of tabOk Tryz.func146 (by kernel_rfl) rfl rfl ?_
 repeat' (first|refine wkt ?_|refine wk ?_|exact wkc|intro hc|refine wk2 ?_ ?_|fail)
 refine TR.loopN l.length (fun k=>firstE (fun t:Tran=>condT w t.cond) (l.take k)=0) (fun k=>[(1,.i w.node.1),(2,.t (declsT w.env)),(3,.t (.sl 8 (l.map tranT))),(4,.cp [.sl 2 (w.p.enums.map enT),nodesT w.p.nodes] 0),(9,.i k)]) (fun _=>[]) rfl (fun k hlt hk=>?_) (fun hk=>?_)
 ·have hx:=at_map tranT hlt
  have hi:=he _ (List.getElem_mem hlt)
  have htk:=firstE_take hlt hk
  have hat:=firstE_at hlt hk
  generalize l[k]=t at*
  generalize condT w t.cond=r at*
  unfold tranT at hx
  unfold exC at hi
  repeat' (first|refine wkt ?_|refine wka ?_|refine rg [.t (.ag [.sl 2 (w.p.enums.map enT),nodesT w.p.nodes]),.i w.node.1,.t (declsT w.env),.t (.sl 8 (l.map tranT)),.i k,.cp [T.n t.cond.kind,T.n t.cond.op,T.n t.cond.t,T.n t.cond.v,.s t.cond.name,.sl 6 (t.cond.args.map exT),T.n t.to,.b t.resume] 0,.cp [T.n t.cond.kind,T.n t.cond.op,T.n t.cond.t,T.n t.cond.v,.s t.cond.name,.sl 6 (t.cond.args.map exT),T.n t.to,.b t.resume] 0,.t (.ag [T.n t.cond.kind,T.n t.cond.op,T.n t.cond.t,T.n t.cond.v,.s t.cond.name,.sl 6 (t.cond.args.map exT)]),.i r,.i r] ?_ ?_|refine wv hi ?_|exact trivial|exact And.intro rfl rfl|refine And.intro (fun H env=>?_) ?_|refine wk ?_|exact wkc|intro hc|refine wk2 ?_ ?_|fail)
  ·rw[hat hc];exact wkr
  ·exact LoopK.nextN hlt (by rw[htk];exact Decidable.not_not.1 hc)
 ·rw[List.take_length]at hk
  rw[hk]
  repeat' (first|refine wkt ?_|refine wk ?_|exact wkc|intro hc|refine wk2 ?_ ?_|fail)
  exact wkr
theorem firstI_zero{α:Type}{g:α->Int}:∀ {l:List α},firstE g l=0->firstI g l=(0,0)
 | [],_=>rfl
 | x::l,h=>by
   rw[firstE]at h
   by_cases h0:g x=0
   ·rw[if_pos h0]at h
    rw[firstI,if_pos h0,firstI_zero h];rfl
   ·rw[if_neg h0]at h;exact absurd h h0
set_option maxHeartbeats 2000000 in
theorem eqs11_sound (w:Plc) (hw:SmallW w) (l:List Equ) (hl:l.length≤1000000000) (hq:∀u∈l,u.left.length≤1000000000/\ExT u.right):Pure Tryz.prog 39 [.t (.ag (progC w.p)),.i w.node.1,.t (declsT w.env),.t (.sl 7 (l.map equT))] (.tup [.i (firstI (eqnT w) l).1,.i (firstI (eqnT w) l).2]):=by
 have hml:(l.map equT).length=l.length:=List.length_map _
 have hs:=fun(u:Equ) (hu:u∈l)=>resultsR_sound w hw u.right (hq u hu).2.1 (hq u hu).2.2 false
 have hty:=fun s=>typeR_sound w.env s hw.env
 unfold progC at*
 refine Sound.of tabOk Tryz.func39 (by kernel_rfl) rfl rfl ?_
 repeat' (first|refine wkt ?_|refine wk ?_|exact wkc|intro hc|refine wk2 ?_ ?_|fail)
 refine TR.loopN l.length (fun k=>firstE (eqnT w) (l.take k)=0) (fun k=>[(1,.i w.node.1),(2,.t (declsT w.env)),(3,.t (.sl 7 (l.map equT))),(4,.cp [.sl 2 (w.p.enums.map enT),nodesT w.p.nodes] 0),(10,.i k)]) (fun _=>[]) rfl (fun k hlt hk=>?_) (fun hk=>?_)
 ·have hx:=at_equ hlt
  have hi:=hs _ (List.getElem_mem hlt)
  have htk:=firstE_take hlt hk
  have hat:=firstI_at hlt hk
  have hql:=(hq _ (List.getElem_mem hlt)).1
  generalize l[k]=u at*
  generalize hz:eqnT w u=z at*
  unfold eqnT at hz
  generalize resT w false u.right=r at*
  obtain⟨t,f⟩:=r
  simp only at hi hz
  have hmt:(t.map T.i).length=t.length:=List.length_map _
  have hmq:(u.left.map T.s).length=u.left.length:=List.length_map _
  rw[exT_eq]at hi
  unfold exC at hi
  unfold equC at hx
  generalize firstI (eqnT w) l=R at*
  clear hs hq
  repeat' (first|refine wkt ?_|refine wka ?_|refine rg [.t (.ag [.sl 2 (w.p.enums.map enT),nodesT w.p.nodes]),.i w.node.1,.t (declsT w.env),.t (.sl 7 (l.map equT)),.i k,.cp [.sl 1 (u.left.map T.s),T.n u.right.kind,T.n u.right.op,T.n u.right.t,T.n u.right.v,.s u.right.name,.sl 6 (u.right.args.map exT)] 0,.cp [.sl 1 (u.left.map T.s),T.n u.right.kind,T.n u.right.op,T.n u.right.t,T.n u.right.v,.s u.right.name,.sl 6 (u.right.args.map exT)] 1,.t (.ag [T.n u.right.kind,T.n u.right.op,T.n u.right.t,T.n u.right.v,.s u.right.name,.sl 6 (u.right.args.map exT)]),.tup [.t (intsT t),.i f],.tup [.t (intsT t),.i f],.t (intsT t),.i f,.t (intsT t),.i f] ?_ ?_|refine wv hi ?_|exact trivial|exact And.intro rfl rfl|refine And.intro (fun H env=>?_) ?_|refine wk ?_|exact wkc|intro hc|refine wk2 ?_ ?_|fail)
  ·rw[if_pos hc]at hz
   subst hz
   rw[hat hc];exact wkr
  ·rename_i c1
   rw[if_neg c1,if_pos (by omega)]at hz
   subst hz
   rw[hat (by decide)];exact wkr
  ·rename_i c1
   have hll:t.length=u.left.length:=by omega
   rw[if_neg c1,if_neg (by omega)]at hz
   refine TR.loopN t.length (fun j=>(u.left.take j).map (fun s=>(lookT w.env s).1)=t.take j) (fun j=>[(1,.i w.node.1),(2,.t (declsT w.env)),(3,.t (.sl 7 (l.map equT))),(4,.cp [.sl 2 (w.p.enums.map enT),nodesT w.p.nodes] 0),(10,.i k),(11,.t (intsT t)),(13,.i j)]) (fun _=>[]) rfl (fun j hlj hj=>?_) (fun hj=>?_)
   ·have hy:=at_strs (show j<u.left.length by omega)
    have hv:=at_ints hlj
    have ht1:=take_at (l:=u.left) (show j<u.left.length by omega)
    have ht2:=take_at hlj
    have hty:=hty (u.left[j]'(by omega))
    have hne:(lookT w.env (u.left[j]'(by omega))).1≠t[j]->u.left.map (fun s=>(lookT w.env s).1)≠t:=fun h e=>h (by
     have:=congrArg (fun l=>l[j]?) e
     simp only[List.getElem?_map,List.getElem?_eq_getElem (show j<u.left.length by omega),List.getElem?_eq_getElem hlj,Option.map_some]at this
     exact Option.some.inj this)
    generalize u.left[j]'(by omega)=s at*
    generalize t[j]=v at*
    generalize hqq:(lookT w.env s).1=q1 at*
    generalize (lookT w.env s).2=q2 at*
    repeat' (first|refine wkt ?_|refine wka ?_|refine wv hty ?_|refine wk ?_|exact wkc|intro hc|refine wk2 ?_ ?_|fail)
    ·rw[if_neg (hne hc)]at hz
     subst hz
     rw[hat (by decide)];exact wkr
    ·refine LoopK.nextN hlj ?_
     rw[ht1,ht2,List.map_append,hj]
     simp only[List.map_cons,List.map_nil]
     rw[hqq,Decidable.not_not.1 hc]
   ·rw[List.take_length,hll,List.take_length]at hj
    rw[if_pos hj]at hz
    repeat' (first|refine wkt ?_|refine wka ?_|refine wk ?_|exact wkc|intro hc|refine wk2 ?_ ?_|fail)
    exact LoopK.nextN hlt (by rw[htk];exact hz.symm)
 ·rw[List.take_length]at hk
  rw[firstI_zero hk]
  repeat' (first|refine wkt ?_|refine wk ?_|exact wkc|intro hc|refine wk2 ?_ ?_|fail)
  exact wkr
end Go.Proofs.YtlocalghkiepmaaGreat
