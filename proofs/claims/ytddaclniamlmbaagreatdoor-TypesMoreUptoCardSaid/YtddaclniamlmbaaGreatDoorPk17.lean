import Derived.Test.YtddaclniamlmbaaGreatDoorPk12
import Derived.Test.YtddaclniamlmbaaGreatDoorPk14
import Derived.Test.YtddaclniamlmbaaGreatDoorPk16
set_option linter.unusedSimpArgs false
set_option linter.unusedVariables false
namespace Go.Proofs.YtddaclniamlmbaaGreatDoor
open Go Go.TL
attribute [local irreducible] TR TO Then InBlock RetK Sound LoopK Kf GG ThenL
def idxI{α:Type}(p:α->Bool):List α->Int
 | []=>-1
 | x::l=>if p x then 0 else if idxI p l<0 then -1 else idxI p l+1
theorem idxI_at{α:Type}(p:α->Bool):∀(l:List α) (k:Nat) (h:k<l.length),(l.take k).all (fun x=>!p x)=true->p l[k]=true->idxI p l=k
 | x::l,0,_,_,hp=>by simp at hp;simp[idxI,hp]
 | x::l,k+1,h,ha,hp=>by
   simp only[List.take_succ_cons,List.all_cons,Bool.and_eq_true,Bool.not_eq_true']at ha
   have:=idxI_at p l k (by simpa using h) ha.2 (by simpa using hp)
   rw[idxI,if_neg (by simp[ha.1]),this,if_neg (by omega)]
   omega
theorem idxI_none{α:Type}(p:α->Bool):∀(l:List α),l.all (fun x=>!p x)=true->idxI p l= -1
 | [],_=>rfl
 | x::l,ha=>by
   simp only[List.all_cons,Bool.and_eq_true,Bool.not_eq_true']at ha
   rw[idxI,if_neg (by simp[ha.1]),idxI_none p l ha.2]
   rfl
theorem idxI_range{α:Type}(p:α->Bool):∀(l:List α),idxI p l= -1\/∃k:Nat,∃h:k<l.length,idxI p l=k/\p l[k]=true
 | []=>.inl rfl
 | x::l=>by
   unfold idxI
   by_cases hx:p x=true
   ·rw[if_pos hx];exact .inr ⟨0,by simp,rfl,by simpa using hx⟩
   ·rw[if_neg hx]
    rcases idxI_range p l with h|⟨k,hk,h,hp⟩
    ·rw[h];exact .inl rfl
    ·rw[h,if_neg (by omega)]
     exact .inr ⟨k+1,by simpa using hk,by omega,by simpa using hp⟩
abbrev declsT (l:List Decl):T:=.sl 3 (l.map declT)
abbrev nodesT (l:List Nod):T:=.sl 8 (l.map nodT)
theorem idxDecl_sound(fid:FuncId)(caps:List SV)(hcaps:unders 0 caps=true)(p:Decl->Bool)(l:List Decl)(hl:l.length≤1000000000)(hp:∀d,Pure Tryz.prog fid (.t (declT d)::caps) (.b (p d))):
  Pure Tryz.prog 163 [.t (declsT l),.fn fid caps] (.i (idxI p l)):=by
 have hml:(l.map declT).length=l.length:=List.length_map _
 refine so Tryz.func163 ?_
 repeat' (first|refine wk ?_|exact wkc|intro hc|refine wk2 ?_ ?_|fail)
 refine TR.loopN l.length (fun k=>(l.take k).all (fun x=>!p x)=true) (fun k=>[(0,.t (declsT l)),(1,.fn fid caps),(7,.i l.length),(8,.i k)]) (fun _=>[]) rfl (fun k hlt ha=>?_) (fun ha=>?_) ⟨rfl,rfl,by rw[<-hml];rfl,rfl,trivial⟩
 ·have hx:=at_map declT hlt
  have htk:=take_at hlt
  have hat:=idxI_at p l k hlt ha
  have hd:=hp l[k]
  generalize l[k]=d at hx htk hat hd
  have hu:unders 0 (.t (declT d)::caps)=true:=by simp[unders,SV.under,hcaps]
  repeat' (first|refine wk ?_|exact wkc|intro hc|refine wk2 ?_ ?_|(apply TO.callV hd;exact rfl;exact rfl;exact rfl;exact Les.refl _;exact hu;exact rfl)|fail)
  ·rw[hat hc];exact wkr
  ·refine LoopK.nextN hlt ?_
   rw[htk,List.all_append,ha]
   simp[hc]
 ·rw[List.take_length]at ha
  rw[idxI_none p l ha]
  repeat' (first|refine wk ?_|exact wkc|intro hc|refine wk2 ?_ ?_|fail)
  exact wkr
theorem idxNode_sound(fid:FuncId)(caps:List SV)(hcaps:unders 0 caps=true)(p:Nod->Bool)(l:List Nod)(hl:l.length≤1000000000)(hp:∀d,Pure Tryz.prog fid (.t (nodT d)::caps) (.b (p d))):
  Pure Tryz.prog 130 [.t (nodesT l),.fn fid caps] (.i (idxI p l)):=by
 have hml:(l.map nodT).length=l.length:=List.length_map _
 refine so Tryz.func130 ?_
 repeat' (first|refine wk ?_|exact wkc|intro hc|refine wk2 ?_ ?_|fail)
 refine TR.loopN l.length (fun k=>(l.take k).all (fun x=>!p x)=true) (fun k=>[(0,.t (nodesT l)),(1,.fn fid caps),(7,.i l.length),(8,.i k)]) (fun _=>[]) rfl (fun k hlt ha=>?_) (fun ha=>?_) ⟨rfl,rfl,by rw[<-hml];rfl,rfl,trivial⟩
 ·have hx:=at_map nodT hlt
  have htk:=take_at hlt
  have hat:=idxI_at p l k hlt ha
  have hd:=hp l[k]
  generalize l[k]=d at hx htk hat hd
  have hu:unders 0 (.t (nodT d)::caps)=true:=by simp[unders,SV.under,hcaps]
  repeat' (first|refine wk ?_|exact wkc|intro hc|refine wk2 ?_ ?_|(apply TO.callV hd;exact rfl;exact rfl;exact rfl;exact Les.refl _;exact hu;exact rfl)|fail)
  ·rw[hat hc];exact wkr
  ·refine LoopK.nextN hlt ?_
   rw[htk,List.all_append,ha]
   simp[hc]
 ·rw[List.take_length]at ha
  rw[idxI_none p l ha]
  repeat' (first|refine wk ?_|exact wkc|intro hc|refine wk2 ?_ ?_|fail)
  exact wkr
theorem declNamed_sound(d:Decl)(nm:Str):Pure Tryz.prog 164 [.t (declT d),.cp [.s nm] 0] (.b (d.name == nm)):=by
 have hd:declT d= .ag [.s d.name,T.n d.ty,.sl 3 (d.clock.map onT)]:=rfl
 rw[hd]
 refine so Tryz.func164 ?_
 repeat' (first|refine wu ?_|exact wkc|intro hc|refine wk2 ?_ ?_|fail)
 all_goals try(refine RetK.pure rfl ?_ rfl;exact Le.of_eq (by simp_all [pack,declT] <;> omega))
theorem nodNamed_sound(d:Nod)(nm:Str):Pure Tryz.prog 227 [.t (nodT d),.cp [.s nm] 0] (.b (d.name == nm)):=by
 have hd:nodT d= .ag [.s d.name,declsT d.ins,declsT d.outs,declsT d.locals,.sl 7 (d.eqs.map equT),.sl 1 (d.autos.map autoT),.sl 6 (d.assume.map exT),.sl 6 (d.ensure.map exT)]:=rfl
 rw[hd]
 refine so Tryz.func227 ?_
 repeat' (first|refine wu ?_|exact wkc|intro hc|refine wk2 ?_ ?_|fail)
 all_goals try(refine RetK.pure rfl ?_ rfl;exact Le.of_eq (by simp_all [pack,nodT] <;> omega))
def lookT:List Decl->Str->Int×Bool
 | [],_=>(0,false)
 | d::l,nm=>if d.name=nm then(d.ty.1,true) else lookT l nm
theorem lookT_idx(nm:Str):∀(l:List Decl),(idxI (fun d=>d.name == nm) l= -1/\lookT l nm=(0,false))\/∃k:Nat,∃h:k<l.length,idxI (fun d=>d.name == nm) l=k/\lookT l nm=(l[k].ty.1,true)
 | []=>.inl ⟨rfl,rfl⟩
 | d::l=>by
   unfold idxI lookT
   by_cases hd:d.name=nm
   ·rw[if_pos hd,if_pos (by simpa using hd)]
    exact .inr ⟨0,by simp,rfl,rfl⟩
   ·rw[if_neg hd,if_neg (by simpa using hd)]
    rcases lookT_idx nm l with ⟨h1,h2⟩|⟨k,hk,h1,h2⟩
    ·rw[h1,h2];exact .inl ⟨rfl,rfl⟩
    ·rw[h1,h2,if_neg (by omega)]
     exact .inr ⟨k+1,by simpa using hk,by omega,rfl⟩
structure Plc where
 p:Prog
 node:I64
 env:List Decl
def plcC(w:Plc):List T:=[.sl 2 (w.p.enums.map enT),nodesT w.p.nodes,T.n w.node,declsT w.env]
abbrev plcT (w:Plc):T:=.ag (plcC w)
theorem typeOf_sound(w:Plc)(nm:Str)(hl:w.env.length≤1000000000):Pure Tryz.prog 88 [.t (plcT w),.s nm] (.tup [.i (lookT w.env nm).1,.b (lookT w.env nm).2]):=by
 have hs:=idxDecl_sound 164 [.cp [.s nm] 0] rfl (fun d=>d.name == nm) w.env hl (fun d=>declNamed_sound d nm)
 unfold plcT plcC
 rcases lookT_idx nm w.env with ⟨h1,h2⟩|⟨k,hk,h1,h2⟩
 ·rw[h1]at hs
  rw[h2]
  refine so Tryz.func88 ?_
  repeat' (first|refine wu ?_|exact wkc|intro hc|refine wk2 ?_ ?_|refine wv hs ?_|fail)
  exact wkr
 ·rw[h1]at hs
  rw[h2]
  have hx:=at_map declT hk
  generalize w.env[k]=d at hx
  have hd:declT d= .ag [.s d.name,T.n d.ty,.sl 3 (d.clock.map onT)]:=rfl
  rw[hd]at hx
  refine so Tryz.func88 ?_
  repeat' (first|refine wu ?_|exact wkc|intro hc|refine wk2 ?_ ?_|refine wv hs ?_|fail)
  exact wkr
def clockT(env:List Decl)(nm:Str)(t:Int):Int:=if(lookT env nm).2=false then 6 else if(lookT env nm).1≠t then 10 else 0
theorem clockT_sound(w:Plc)(nm:Str)(t:Int)(hl:w.env.length≤1000000000):Pure Tryz.prog 91 [.t (plcT w),.s nm,.i t] (.i (clockT w.env nm t)):=by
 have hs:=typeOf_sound w nm hl
 unfold clockT
 generalize lookT w.env nm=u at*
 obtain⟨u1,u2⟩:=u
 unfold plcT plcC at*
 cases u2
 all_goals
  refine so Tryz.func91 ?_
  repeat' (first|refine wu ?_|exact wkc|intro hc|refine wk2 ?_ ?_|refine wv hs ?_|fail)
  all_goals
   refine RetK.pure rfl (Le.of_eq ?_) rfl
   simp_all [pack]
def eqAll(l:List Int):Bool:=l.all fun t=>decide (t=l.headD 0)
theorem equal_sound(l:List Int)(hl:l.length≤1000000000):Pure Tryz.prog 90 [.t (intsT l)] (.b (eqAll l)):=by
 have hml:(l.map T.i).length=l.length:=List.length_map _
 unfold eqAll
 refine so Tryz.func90 ?_
 repeat' (first|refine wk ?_|exact wkc|intro hc|refine wk2 ?_ ?_|fail)
 refine TR.loopN l.length (fun k=>(l.take k).all (fun t=>decide (t=l.headD 0))=true) (fun k=>[(0,.t (intsT l)),(5,.t (intsT l)),(6,.i l.length),(7,.i k)]) (fun _=>[]) rfl (fun k hlt ha=>?_) (fun ha=>?_) ⟨rfl,rfl,by rw[<-hml];rfl,rfl,trivial⟩
 ·have hx:=at_ints hlt
  have htk:=take_at hlt
  have hm:=List.getElem_mem hlt
  have hx0:(l.map T.i)[(0:Int).toNat]?=some (T.i (l.headD 0)):=by cases l with|nil=>simp at hlt|cons a l=>rfl
  generalize l[k]=t at hx htk hm
  generalize hh:l.headD 0=t0 at*
  repeat' (first|refine wk ?_|exact wkc|intro hc|refine wk2 ?_ ?_|fail)
  ·have:l.all (fun t=>decide (t=t0))=false:=List.all_eq_false.2 ⟨t,hm,by simpa using hc⟩
   rw[this];exact wkr
  ·refine LoopK.nextN hlt ?_
   rw[htk,List.all_append,ha]
   simpa using hc
 ·rw[List.take_length]at ha
  rw[ha]
  repeat' (first|refine wk ?_|exact wkc|intro hc|refine wk2 ?_ ?_|fail)
  exact wkr
def findN(p:Prog)(nm:Str):Int×Bool:=(max (idxI (fun n=>n.name == nm) p.nodes) 0,decide (0≤idxI (fun n=>n.name == nm) p.nodes))
def progC(p:Prog):List T:=[.sl 2 (p.enums.map enT),nodesT p.nodes]
theorem find_sound(p:Prog)(nm:Str)(hl:p.nodes.length≤1000000000):Pure Tryz.prog 166 [.t (.ag (progC p)),.s nm] (.tup [.i (findN p nm).1,.b (findN p nm).2]):=by
 have hs:=idxNode_sound 227 [.cp [.s nm] 0] rfl (fun n=>n.name == nm) p.nodes hl (fun d=>nodNamed_sound d nm)
 unfold findN progC
 refine so Tryz.func166 ?_
 repeat' (first|refine wu ?_|exact wkc|intro hc|refine wk2 ?_ ?_|refine wv hs ?_|fail)
 all_goals
  refine RetK.pure rfl (Le.of_eq ?_) rfl
  simp_all [pack]
structure SmallN (n:Nod):Prop where
 ins:n.ins.length≤100000000
 outs:n.outs.length≤100000000
 locals:n.locals.length≤100000000
structure SmallW (w:Plc):Prop where
 nodes:w.p.nodes.length≤100000000
 each:∀n∈w.p.nodes,SmallN n
 env:w.env.length≤1000000000
def insOk:List Decl->List Int->Bool
 | d::ds,t::ts=>decide (t=d.ty.1) && insOk ds ts
 | _,_=>true
def callT(w:Plc)(e:Ex)(l:List Int)(inner:Bool):List Int×Int:=
 if(findN w.p e.name).2=false\/w.node.1≤(findN w.p e.name).1 then([],6) else
 match w.p.nodes[(findN w.p e.name).1.toNat]? with
 | none=>([],6)
 | some n=>
   if(l.length:Int)≠n.ins.length+e.v.1\/(inner=true/\n.outs.length≠1) then([],9)
   else if insOk n.ins l=false then([],10)
   else if e.v.1=1/\l.getD n.ins.length 0≠1 then([],10)
   else(n.outs.map (·.ty.1),0)
def nodC(d:Nod):List T:=[.s d.name,declsT d.ins,declsT d.outs,declsT d.locals,.sl 7 (d.eqs.map equT),.sl 1 (d.autos.map autoT),.sl 6 (d.assume.map exT),.sl 6 (d.ensure.map exT)]
def declC(d:Decl):List T:=[.s d.name,T.n d.ty,.sl 3 (d.clock.map onT)]
theorem at_nod{l:List Nod}{k:Nat}(h:k<l.length):(l.map nodT)[k]?=some (.ag (nodC l[k])):=at_map nodT h
theorem at_decl{l:List Decl}{k:Nat}(h:k<l.length):(l.map declT)[k]?=some (.ag (declC l[k])):=at_map declT h
theorem findN_some{p:Prog}{nm:Str}(h:(findN p nm).2=true):∃k:Nat,∃hk:k<p.nodes.length,findN p nm=((k:Int),true):=by
 unfold findN at h⊢
 rcases idxI_range (fun n:Nod=>n.name == nm) p.nodes with h1|⟨k,hk,h1,_⟩
 ·rw[h1]at h;simp at h
 ·rw[h1]
  exact⟨k,hk,by simp⟩
theorem call_sound(w:Plc)(hw:SmallW w)(e:Ex)(l:List Int)(inner:Bool)(hv:e.v.1=0\/e.v.1=1):Pure Tryz.prog 92 [.t (plcT w),.t (.ag (exC e)),.t (intsT l),.b inner] (.tup [.t (intsT (callT w e l inner).1),.i (callT w e l inner).2]):=by
 have hs:=find_sound w.p e.name (by have:=hw.nodes;omega)
 unfold callT
 unfold progC at hs
 cases hf:(findN w.p e.name).2 with
 | false=>
   rw[hf]at hs
   rw[if_pos (.inl rfl)]
   unfold plcT plcC exC
   refine so Tryz.func92 ?_
   repeat' (first|refine wu ?_|exact wkc|intro hc|refine wk2 ?_ ?_|refine wv hs ?_|fail)
   exact wkr
 | true=>
   obtain⟨k,hk,hf'⟩:=findN_some hf
   rw[hf']at hs⊢
   simp only[Bool.true_eq_false,false_or,Int.toNat_natCast,List.getElem?_eq_getElem hk]at hs⊢
   have hn:=hw.each w.p.nodes[k] (List.getElem_mem hk)
   have hx:=at_nod hk
   generalize w.p.nodes[k]=n at hn hx⊢
   have hmi:(n.ins.map declT).length=n.ins.length:=List.length_map _
   have hmo:(n.outs.map declT).length=n.outs.length:=List.length_map _
   have hml:(l.map T.i).length=l.length:=List.length_map _
   have hi:=hn.ins
   have ho:=hn.outs
   unfold plcT plcC exC
   unfold nodC at hx
   by_cases hnode:w.node.1≤(k:Int)
   ·rw[if_pos hnode]
    refine so Tryz.func92 ?_
    repeat' (first|refine wu ?_|exact wkc|intro hc|refine wk2 ?_ ?_|refine wv hs ?_|fail)
    exact wkr
   ·rw[if_neg hnode]
    by_cases h9:(l.length:Int)≠n.ins.length+e.v.1\/(inner=true/\n.outs.length≠1)
    ·rw[if_pos h9]
     cases inner
     all_goals
      refine so Tryz.func92 ?_
      repeat' (first|refine wu ?_|exact wkc|intro hc|refine wk2 ?_ ?_|refine wv hs ?_|fail)
      all_goals first
       | exact wkr
       | (exfalso;simp at h9;omega)
    ·rw[if_neg h9]
     have h91:(l.length:Int)=n.ins.length+e.v.1:=by
      refine Classical.byContradiction fun h=>h9 (.inl h)
     have h92:inner=true->n.outs.length=1:=fun h=>Classical.byContradiction fun h'=>h9 (.inr ⟨h,h'⟩)
     clear h9
     have hlb:l.length≤100000001:=by omega
     cases inner
     all_goals
      try replace h92:=h92 rfl
      refine so Tryz.func92 ?_
      repeat' (first|refine wu ?_|exact wkc|intro hc|refine wk2 ?_ ?_|refine wv hs ?_|fail)
      refine TR.loopN n.ins.length (fun j=>insOk n.ins l=insOk (n.ins.drop j) (l.drop j)) (fun j=>[(2,.t (intsT l)),(5,.cp [T.n e.kind,T.n e.op,T.n e.t,T.n e.v,.s e.name,.sl 6 (e.args.map exT)] 0),(12,.cp (nodC n) 0),(59,.t (declsT n.ins)),(60,.i n.ins.length),(61,.i j)]) (fun _=>[]) rfl (fun j hlt ha=>?_) (fun ha=>?_) ⟨rfl,rfl,rfl,rfl,by rw[<-hmi];rfl,rfl,trivial⟩
      ·have hj:j<l.length:=by omega
       have hx1:=at_decl hlt
       have hx2:=at_ints hj
       rw[List.drop_eq_getElem_cons hlt,List.drop_eq_getElem_cons hj,insOk]at ha
       generalize n.ins[j]=d at hx1 ha
       generalize l[j]=t at hx2 ha
       unfold declC at hx1
       rw[ha]
       repeat' (first|refine wu ?_|exact wkc|intro hc|refine wk2 ?_ ?_|fail|fail)
       ·rw[if_pos (by simp[hc])]
        exact wkr
       ·refine LoopK.nextC 0 hlt ?_ rfl rfl rfl rfl rfl
        simp[show t=d.ty.1 from by simpa using hc]
      ·rw[List.drop_of_length_le (Nat.le_refl _)]at ha
       rw[show insOk n.ins l=true from by rw[ha];rfl]
       simp only[Bool.true_eq_false,if_false]
       unfold nodC
       have hgo:e.v.1=1->(l.map T.i)[((n.ins.map declT).length:Int).toNat]?=some (T.i (l.getD n.ins.length 0)):=by
        intro h1
        have:n.ins.length<l.length:=by omega
        rw[hmi]
        simp[this]
       by_cases hb:e.v.1=1/\l.getD n.ins.length 0≠1
       ·rw[if_pos hb]
        have hxx:=hgo hb.1
        repeat' (first|refine wu ?_|exact wkc|intro hc|refine wk2 ?_ ?_|fail|fail)
        all_goals first
         | exact wkr
         | (exfalso;exact hb.2 (by simpa using hc))
         | (exfalso;exact hc hb.1)
       ·rw[if_neg hb]
        have hl1:e.v.1=1->l.getD n.ins.length 0=1:=fun h1=>Classical.byContradiction fun h=>hb ⟨h1,h⟩
        by_cases hv1:e.v.1=1
        all_goals
         try(have hxx:=hgo hv1;rw[hl1 hv1]at hxx)
         clear hgo hb hl1
         repeat' (first|refine wu ?_|exact wkc|intro hc|refine wk2 ?_ ?_|fail|fail)
         refine TR.tail 1 15 rfl ?_
         refine TR.loopN n.outs.length (fun _=>True) (fun j=>[(15,.sl 1 (((n.outs.take j).map (·.ty.1)).map T.i) 0),(87,.t (declsT n.outs)),(88,.i n.outs.length),(89,.i j)]) (fun j=>[.tail (((n.outs.take j).map (·.ty.1)).map T.i).length]) trivial (fun j hlt _=>?_) (fun _=>?_) ⟨rfl,rfl,by rw[<-hmo];rfl,rfl,trivial⟩
         ·have hx1:=at_decl hlt
          have htk:((n.outs.take (j+1)).map (·.ty.1)).map T.i=((n.outs.take j).map (·.ty.1)).map T.i++[T.i n.outs[j].ty.1]:=by rw[take_at hlt];simp only[List.map_append,List.map_cons,List.map_nil]
          have hmk:(((n.outs.take j).map (·.ty.1)).map T.i).length≤100000000:=by simp;omega
          generalize n.outs[j]=d at hx1 htk
          unfold declC at hx1
          repeat' (first|refine wu ?_|exact wkc|intro hc|refine wk2 ?_ ?_|fail|fail)
          exact LoopK.nextN hlt trivial (by rw[htk];exact⟨rfl,rfl,rfl,rfl,trivial⟩) (by rw[htk,List.length_append];rfl)
         ·rw[List.take_length]
          repeat' (first|refine wu ?_|exact wkc|intro hc|refine wk2 ?_ ?_|fail|fail)
          exact wkr
theorem clone_sound(l:List T)(hl:l.length≤1000000000):Pure Tryz.prog 86 [.t (.sl 3 l)] (.t (.sl 3 l)):=by
 refine so Tryz.func86 ?_
 repeat' (first|refine wk ?_|fail)
 apply TO.eq_nil_sl tabOk (sz:=3)
 ·exact rfl
 ·exact rfl
 ·exact rfl
 ·exact rfl
 ·exact rfl
 ·intro hc
  subst hc
  repeat' (first|refine wk ?_|exact wkc|intro hc|refine wk2 ?_ ?_|fail|fail)
  exact wkr
 ·refine TO.nil ?_
  simp only[Kf]
  repeat' (first
   | (apply TO.move;exact rfl;exact rfl)
   | (apply TO.assign;exact rfl;exact rfl)
   | (apply TO.want;exact rfl)
   | (apply TO.add;exact rfl;exact rfl;exact rfl;omega;omega)
   | (apply TO.cat;exact rfl;exact rfl;exact rfl;(first|omega|(simp only[List.length_append,List.length_cons,List.length_nil];omega)))
   | (apply TO.eqs;exact rfl;exact rfl;exact rfl)
   | (apply TO.nes;exact rfl;exact rfl;exact rfl)
   | (apply TO.cmp;exact rfl;exact rfl;exact rfl;exact rfl)
   | (intro hc;exact absurd hc (by decide))
   | (intro hc;exfalso;simp only[decide_eq_true_eq,decide_eq_false_iff_not,beq_iff_eq,beq_eq_false_iff_ne,bne_iff_ne,bne_eq_false_iff_eq,ne_eq,Decidable.not_not,not_true_eq_false]at hc;done)
   | (intro hc;exfalso;(first|simp only[decide_eq_true_eq,decide_eq_false_iff_not,beq_iff_eq,beq_eq_false_iff_ne,bne_iff_ne,bne_eq_false_iff_eq,ne_eq,Decidable.not_not,not_true_eq_false]at hc|skip);first|omega|(simp only[List.length_nil,List.length_cons]at *;omega))
   | intro hc
   | (apply TO.pick;exact rfl;exact rfl;exact rfl)
   | (apply TO.pass;exact rfl;exact rfl)
   | (apply TO.pass0;exact rfl)
   | (apply TO.load tabOk;exact rfl;exact rfl;exact rfl;exact rfl;exact rfl)
   | (apply TO.load_ref tabOk;exact rfl;exact rfl;exact rfl;exact rfl;exact rfl;exact rfl)
   | (apply TO.fieldAddr tabOk;exact rfl;exact rfl;exact rfl;exact rfl;exact rfl;decide;exact rfl)
   | (apply TO.fieldAddr_ref tabOk;exact rfl;exact rfl;exact rfl;exact rfl;exact rfl;decide;exact rfl)
   | (apply TO.nilCheck;exact rfl;exact rfl;exact rfl)
   | (apply TO.index_nat tabOk;exact rfl;exact rfl;exact rfl;exact rfl;exact rfl;assumption)
   | (apply TO.index_str tabOk;exact rfl;exact rfl;exact rfl;exact rfl;exact rfl;decide;exact rfl)
   | (apply TO.len_str tabOk;exact rfl;exact rfl;exact rfl;exact rfl)
   | (apply TO.len_sl tabOk;exact rfl;exact rfl;exact rfl;exact rfl;exact rfl;exact rfl;exact rfl)
   | (apply TO.elem_nat tabOk;exact rfl;exact rfl;exact rfl;exact rfl;exact rfl;exact rfl;exact rfl;exact rfl;assumption;exact rfl)
   | (apply TO.extract;exact rfl;exact rfl;exact rfl)
   | (apply TO.build0 tabOk;exact rfl;exact rfl;exact rfl;exact rfl;exact rfl)
   | refine TO.nil ?_
   | refine TR.seq ?_
   | refine TR.region ?_
   | (apply TR.condT;exact rfl)
   | (apply TR.condF;exact rfl)
   | refine Then.normal ?_
   | refine TR.block ?_
   | refine TR.skip ?_
   | (apply TR.regionQ hmix;kernel_rfl;exact rfl)
   | refine TR.exit ?_
   | refine TR.ret ?_
   | refine Then.exit ?_
   | refine Then.ret ?_
   | refine LoopK.exit ?_
   | refine LoopK.ret ?_
   | refine InBlock.normal ?_
   | refine InBlock.ret ?_
   | (apply InBlock.same;exact rfl)
   | (apply InBlock.other;exact rfl)
   | (apply TO.sub64;exact rfl;exact rfl;exact rfl;omega;omega)
   | (apply TO.mul64;exact rfl;exact rfl;exact rfl;omega;omega)
   | (apply TO.convert_u8;exact rfl;kernel_rfl;kernel_rfl;exact rfl)
   | (apply TO.bin;exact rfl;exact rfl;exact rfl;exact rfl)
   | (apply TO.slice2 tabOk;exact rfl;exact rfl;exact rfl;exact rfl;exact rfl;exact rfl;omega;omega)
   | (apply TO.slice_lo tabOk;exact rfl;exact rfl;exact rfl;exact rfl;exact rfl;omega)
   | (apply TO.slice_hi tabOk;exact rfl;exact rfl;exact rfl;exact rfl;exact rfl;omega)
   | (apply TO.not;exact rfl;exact rfl)
   | (apply TO.nilCheck_fn;exact rfl;exact rfl)
   | (apply TO.load_agg tabOk;exact rfl;exact rfl;exact rfl;exact rfl;exact Nat.le_of_ble_eq_true rfl)
   | (apply TO.load_ref_agg tabOk;exact rfl;exact rfl;exact rfl;exact rfl;exact rfl;exact Nat.le_of_ble_eq_true rfl)
   | (apply TO.len_ms tabOk;exact rfl;exact rfl;exact rfl;exact rfl)
   | (apply TO.buildT tabOk;exact rfl;exact rfl;exact rfl;exact rfl;exact rfl;exact rfl;exact rfl)
   | (apply TO.build tabOk;exact rfl;exact rfl;exact rfl;exact rfl;exact rfl;exact rfl)
   | (apply TO.box;exact rfl;exact rfl;exact rfl;exact rfl)
   | (apply TO.alloc tabOk;exact rfl;exact rfl;exact rfl)
   | (apply TO.store tabOk;exact rfl;exact rfl;exact rfl;exact rfl;exact rfl;exact rfl;exact Nat.le_of_ble_eq_true rfl;exact rfl;exact Nat.le_of_ble_eq_true rfl;exact rfl)
   | (apply TO.buildSliceB tabOk;exact rfl;exact rfl;exact rfl;exact rfl;exact rfl;exact rfl;exact rfl;exact rfl;exact rfl;exact rfl)
   | (apply TO.appendB tabOk;exact rfl;exact rfl;exact rfl;exact rfl;exact rfl;exact rfl;exact rfl;exact rfl;exact rfl;exact rfl;exact rfl;exact rfl;exact rfl;(first|omega|(simp only[List.length_append,List.length_cons,List.length_nil];omega));exact rfl)
   | (apply TO.eqb;exact rfl;exact rfl;exact rfl;kernel_rfl)
   | (apply TO.neb;exact rfl;exact rfl;exact rfl;kernel_rfl)
   | (apply TO.elem_nat (j:=0) tabOk;exact rfl;exact rfl;exact rfl;exact rfl;exact rfl;exact rfl;exact rfl;exact rfl;exact rfl;exact rfl)
   | (apply TO.makeFunc;exact rfl;exact rfl)
   | (apply TO.fieldAddr_tref tabOk;exact rfl;exact rfl;exact rfl;exact rfl;exact rfl;decide;exact rfl)
   | (apply TO.eq_nil_ptr tabOk;exact rfl;exact rfl;exact rfl;exact rfl;exact rfl)
   | (apply TO.eq_nil_nil tabOk;exact rfl;exact rfl;exact rfl;exact rfl)
   | (apply TO.ne_nil_ptr tabOk;exact rfl;exact rfl;exact rfl;exact rfl;exact rfl)
   | (apply TO.ne_nil_nil tabOk;exact rfl;exact rfl;exact rfl;exact rfl)
   | (apply TO.ssl2 tabOk;exact rfl;exact rfl;exact rfl;exact rfl;exact rfl;exact rfl;exact rfl;exact rfl;exact rfl;omega;omega)
   | (apply TO.ssl_lo tabOk;exact rfl;exact rfl;exact rfl;exact rfl;exact rfl;exact rfl;exact rfl;exact rfl;omega)
   | (apply TO.ssl_hi tabOk;exact rfl;exact rfl;exact rfl;exact rfl;exact rfl;exact rfl;exact rfl;exact rfl;omega))
  exact wkr
theorem concat0_sound(ls:List (List Decl))(hl:ls.length≤1000000)(h0:ls.flatten=[]):
  Pure Tryz.prog 85 [.t (.sl 1 (ls.map dls))] (.t (.v (.slice none 0 0))):=by
 have hml:(ls.map dls).length=ls.length:=List.length_map _
 have hall:∀k (h:k<ls.length),ls[k]=[]:=fun k h=>List.flatten_eq_nil_iff.1 h0 _ (List.getElem_mem h)
 refine so Tryz.func85 ?_
 repeat' (first|refine wk ?_|exact wkc|intro hc|refine wk2 ?_ ?_|fail|fail)
 refine TR.loopN ls.length (fun _=>True) (fun k=>[(0,.t (.sl 1 (ls.map dls))),(3,.i 0),(9,.t (.sl 1 (ls.map dls))),(10,.i ls.length),(11,.i k)]) (fun _=>[]) trivial (fun k hlt _=>?_) (fun _=>?_) ⟨rfl,rfl,rfl,by rw[<-hml];rfl,rfl,trivial⟩
 ·have hx:=at_dls hlt
  rw[hall k hlt]at hx
  change _=some (T.sl 3 [])at hx
  repeat' (first|refine wk ?_|exact wkc|intro hc|refine wk2 ?_ ?_|fail|fail)
  exact LoopK.nextN hlt trivial ⟨rfl,rfl,rfl,rfl,rfl,trivial⟩
 ·repeat' (first|refine wk ?_|exact wkc|intro hc|refine wk2 ?_ ?_|refine wv grow0_sound ?_|fail)
  refine TR.loopN ls.length (fun _=>True) (fun k=>[(6,.t (.v (.slice none 0 0))),(25,.t (.sl 1 (ls.map dls))),(26,.i ls.length),(27,.i k)]) (fun _=>[]) trivial (fun k hlt _=>?_) (fun _=>?_) ⟨rfl,rfl,by rw[<-hml];rfl,rfl,trivial⟩
  ·have hx:=at_dls hlt
   rw[hall k hlt]at hx
   change _=some (T.sl 3 [])at hx
   repeat' (first|refine wk ?_|exact wkc|intro hc|refine wk2 ?_ ?_|(apply TO.append_none tabOk;exact rfl;exact rfl;exact rfl;exact rfl;exact rfl;exact rfl;exact rfl;exact rfl;exact rfl;exact rfl;exact rfl)|fail)
   exact LoopK.nextN hlt trivial ⟨rfl,rfl,rfl,rfl,trivial⟩
  ·repeat' (first|refine wk ?_|exact wkc|intro hc|refine wk2 ?_ ?_|fail|fail)
   exact wkr
theorem load_elem{P:Program}{n:Nat}{env:Env}{H:Heap}{K:TK}{all:Array Oper}{rest:List Oper}{tab:Tab}{d:Nat}{ty:TypeId}{pos:String}{aft:Array Edge}{q:Bool}(hT:TabOk P tab){t:TypeId}{i:TyI}{x:Operand}{cs es:List SV}{id off sz:Nat}(hd:Nat.ble (d+1) n=true)(ht:tab.get t=some i)(hk:i.k.agg=true)
  (hx:env.val x=some (.ref id off))(hH:H[id]?=some (.cells cs))(hs:i.size=sz)(hel:(cs.drop off).take sz=es)(hc:off+sz≤cs.length)(k:TO q P n all rest ((d,.ag es)::env) H K):TO q P n all (⟨some d,.load t x,ty,pos,aft,none⟩::rest) env H K:=by
 subst hs
 subst hel
 exact TO.load_ref_agg hT hd ht hk hx hH hc k
def varsL(n:Nod):List Decl:=n.ins++(n.outs++(n.locals++[]))
theorem vars_sound(n:Nod)(hn:SmallN n)(hck:∀d∈varsL n,d.clock.length≤100000000):Pure Tryz.prog 38 [.t (.ag (nodC n))] (.t (declsT (varsL n))):=by
 have hi:=hn.ins
 have ho:=hn.outs
 have hl:=hn.locals
 have hlen:(varsL n).length=n.ins.length+n.outs.length+n.locals.length:=by simp[varsL];omega
 by_cases h0:varsL n=[]
 ·have hc:=concat0_sound [n.ins,n.outs,n.locals] (by simp) h0
  rw[h0]
  unfold nodC
  refine so Tryz.func38 ?_
  repeat' (first|refine wu ?_|exact wkc|intro hc|refine wk2 ?_ ?_|refine wv hc ?_|fail)
  refine TR.loopN 0 (fun _=>True) (fun k=>[(3,.t (.v (.slice none 0 0))),(14,.t (.v (.slice none 0 0))),(15,.i 0),(16,.i k)]) (fun _=>[]) trivial (fun k hlt _=>?_) (fun _=>?_) ⟨rfl,rfl,rfl,rfl,trivial⟩
  ·omega
  ·repeat' (first|refine wu ?_|exact wkc|intro hc|refine wk2 ?_ ?_|fail|fail)
   exact wkr
 ·have h1:1≤(varsL n).length:=by
   cases hv:varsL n with
   | nil=>exact absurd hv h0
   | cons a l=>simp
  have hc:=concat_sound [n.ins,n.outs,n.locals] (by simp) (show(varsL n).length≤_ by omega) h1
  have hb:(varsL n).length≤300000000:=by omega
  clear hi ho hl hlen h0
  change Sound Tryz.prog _ _ _ (fun r H'=>r= .ret (.ms 3 0 0 (varsL n).length)/\H'=[.cells ((declCs (varsL n)).map .t)])at hc
  generalize varsL n=L at hc h1 hb hck⊢
  unfold nodC
  refine so Tryz.func38 ?_
  repeat' (first|refine wu ?_|exact wkc|intro hc|refine wk2 ?_ ?_|(apply TO.callMs (tl:=declCs L) hc;exact rfl;exact rfl;exact rfl;exact Les.refl _;exact rfl)|fail)
  have hcl:((declCs L).map SV.t).length=L.length*3:=by rw[List.length_map,declCs_len]
  refine TR.loopN L.length (fun _=>True) (fun k=>[(3,.ms 3 0 0 L.length),(14,.ms 3 0 0 L.length),(15,.i L.length),(16,.i k)]) (fun _=>[.cells ((declCs L).map .t)]) trivial (fun k hlt _=>?_) (fun _=>?_) ⟨rfl,rfl,rfl,rfl,trivial⟩
  ·have hft:=flat_take (sz:=3) (L.map declT) (fun e he=>by obtain⟨d,_,rfl⟩:=List.mem_map.1 he;rfl) k (by simpa using hlt)
   have hld:(((declCs L).map SV.t).drop (0+k*3)).take 3=[.t (.s L[k].name),.t (T.n L[k].ty),.t (.sl 3 (L[k].clock.map onT))]:=by
    rw[<-List.map_drop,<-List.map_take,Nat.zero_add]
    unfold declCs
    rw[hft]
    simp[declT,T.cells]
   have hll:0+k*3+3≤((declCs L).map SV.t).length:=by rw[hcl];omega
   have hll2:0+k*3+2<((declCs L).map SV.t).length:=by rw[hcl];omega
   have hcl2:=clone_sound (L[k].clock.map onT) (by have:=hck _ (List.getElem_mem hlt);rw[List.length_map];omega)
   generalize L[k]=d at hld hcl2
   have hg2:((declCs L).map SV.t)[0+k*3+2]?=some (.t (.sl 3 (d.clock.map onT))):=by
    have:=congrArg (fun l:List SV=>l[2]?) hld
    simp only[List.getElem?_take,List.getElem?_drop]at this
    simpa using this
   have hset:[Blk.cells ((declCs L).map SV.t),Blk.cells [.t (.s d.name),.t (T.n d.ty),.t (.sl 3 (d.clock.map onT))]].set 0 (.cells (((declCs L).map SV.t).set (0+k*3+2) (.t (.sl 3 (d.clock.map onT)))))=[Blk.cells ((declCs L).map SV.t),Blk.cells [.t (.s d.name),.t (T.n d.ty),.t (.sl 3 (d.clock.map onT))]]:=by
    obtain⟨g1,g2⟩:=List.getElem?_eq_some_iff.1 hg2
    have:=@List.set_getElem_self _ ((declCs L).map SV.t) _ g1
    rw[g2]at this
    rw[this]
    rfl
   repeat' (first|refine wk ?_|exact wkc|intro hc|refine wk2 ?_ ?_|refine wv hcl2 ?_|(apply TO.indexAddr_ms tabOk;exact rfl;exact rfl;exact rfl;exact rfl;exact rfl;exact rfl;exact rfl;omega;omega)|(apply load_elem tabOk;exact rfl;exact rfl;exact rfl;exact rfl;exact rfl;exact rfl;exact hld;exact hll)|(apply TO.store1 tabOk;exact rfl;exact rfl;exact rfl;exact rfl;exact rfl;exact rfl;exact rfl;exact hll2;exact hset)|fail)
   exact LoopK.nextC 1 hlt trivial rfl rfl rfl (under_ts 1 _) rfl
  ·refine TR.freeze 3 3 0 _ (es:=L.map declT) rfl rfl rfl (by simp) (fun e he=>by obtain⟨d,_,rfl⟩:=List.mem_map.1 he;rfl) rfl rfl ?_
   repeat' (first|refine wu ?_|exact wkc|intro hc|refine wk2 ?_ ?_|fail|fail)
   exact wkr
end Go.Proofs.YtddaclniamlmbaaGreatDoor
