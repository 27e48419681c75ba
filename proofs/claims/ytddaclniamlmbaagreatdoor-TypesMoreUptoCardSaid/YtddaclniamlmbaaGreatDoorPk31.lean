import Derived.Test.YtddaclniamlmbaaGreatDoorPk25
import Derived.Test.YtddaclniamlmbaaGreatDoorPk30
set_option linter.unusedSimpArgs false
set_option linter.unusedVariables false
namespace Go.Proofs.YtddaclniamlmbaaGreatDoor
open Go Go.TL
attribute [local irreducible] TR TO Then InBlock RetK Sound LoopK Kf GG ThenL
theorem staNamed_sound(x s:Sta):Pure Tryz.prog 207 [.t (staT x),.cp (staC s) 0] (.b (x.name == s.name)):=by
 rw[staT_C]
 unfold staC
 refine so Tryz.func207 ?_
 repeat' (first|refine wu ?_|exact wkc|intro hc|refine wk2 ?_ ?_|fail)
 all_goals
  refine RetK.pure rfl (Le.of_eq ?_) rfl
  refine congrArg (fun b=>SV.t (T.v (Value.bool b))) ?_
  simp[hc]
theorem idxState_sound(fid:FuncId)(caps:List SV)(hcaps:unders 0 caps=true)(p:Sta->Bool)(l:List Sta)(hl:l.length≤1000000000)(hp:∀d,Pure Tryz.prog fid (.t (staT d)::caps) (.b (p d))):
  Pure Tryz.prog 283 [.t (.sl 6 (l.map staT)),.fn fid caps] (.i (idxI p l)):=by
 have hml:(l.map staT).length=l.length:=List.length_map _
 refine so Tryz.func283 ?_
 repeat' (first|refine wk ?_|exact wkc|intro hc|refine wk2 ?_ ?_|fail)
 refine TR.loopN l.length (fun k=>(l.take k).all (fun x=>!p x)=true) (fun k=>[(0,.t (.sl 6 (l.map staT))),(1,.fn fid caps),(7,.i l.length),(8,.i k)]) (fun _=>[]) rfl (fun k hlt ha=>?_) (fun ha=>?_) ⟨rfl,rfl,by rw[<-hml];rfl,rfl,trivial⟩
 ·have hx:=at_map staT hlt
  have htk:=take_at hlt
  have hat:=idxI_at p l k hlt ha
  have hd:=hp l[k]
  generalize l[k]=d at hx htk hat hd
  rw[staT_C]at hx hd
  have hu:unders 0 (.t (.ag (staC d))::caps)=true:=by simp[unders,SV.under,hcaps]
  unfold staC at*
  repeat' (first|refine wk ?_|exact wkc|intro hc|refine wk2 ?_ ?_|(apply TO.callV hd;exact rfl;exact rfl;exact rfl;exact Les.refl _;exact hu;exact rfl)|fail)
  ·rw[hat hc];exact wkr
  ·refine LoopK.nextN hlt ?_
   rw[htk,List.all_append,ha]
   simp[hc]
 ·rw[List.take_length]at ha
  rw[idxI_none p l ha]
  repeat' (first|refine wk ?_|exact wkc|intro hc|refine wk2 ?_ ?_|fail)
  exact wkr
theorem idxI_any{α:Type}(p:α->Bool)(l:List α):decide (0≤idxI p l)=l.any p:=by
 rcases idxI_range p l with h|⟨k,hk,h,hp⟩
 ·rw[h]
  symm
  cases ha:l.any p with
  | false=>rfl
  | true=>
    exfalso
    have:∀l:List α,l.any p=true->0≤idxI p l:=by
     intro l
     induction l with
     | nil=>intro h;simp at h
     | cons x l ih=>
       intro h
       unfold idxI
       by_cases hx:p x=true
       ·rw[if_pos hx];omega
       ·rw[if_neg hx]
        have:=ih (by simpa [hx]using h)
        rw[if_neg (by omega)];omega
    have:=this l ha
    omega
 ·rw[h]
  have:l.any p=true:=List.any_eq_true.2 ⟨_,List.getElem_mem hk,hp⟩
  rw[this];simp
theorem conState_sound(fid:FuncId)(caps:List SV)(hcaps:unders 0 caps=true)(p:Sta->Bool)(l:List Sta)(hl:l.length≤1000000000)(hp:∀d,Pure Tryz.prog fid (.t (staT d)::caps) (.b (p d))):
  Pure Tryz.prog 206 [.t (.sl 6 (l.map staT)),.fn fid caps] (.b (l.any p)):=by
 have hs:=idxState_sound fid caps hcaps p l hl hp
 have ha:=idxI_any p l
 generalize idxI p l=z at*
 have hu:unders 0 [.t (.sl 6 (l.map staT)),.fn fid caps]=true:=by simp[unders,SV.under,hcaps]
 refine so Tryz.func206 ?_
 repeat' (first|refine wk ?_|exact wkc|intro hc|refine wk2 ?_ ?_|(apply TO.callV hs;exact rfl;exact rfl;exact rfl;exact Les.refl _;exact hu;exact rfl)|fail)
 all_goals
  refine RetK.pure rfl (Le.of_eq ?_) rfl
  refine congrArg (fun b=>SV.t (T.v (Value.bool b))) ?_
  rw[<-ha];simp;omega
theorem indexS_sound(l:List Str)(hl:l.length≤1000000000)(s:Str):Pure Tryz.prog 306 [.t (.sl 1 (l.map T.s)),.s s] (.i (idxI (fun x=>s == x) l)):=by
 have hml:(l.map T.s).length=l.length:=List.length_map _
 refine so Tryz.func306 ?_
 repeat' (first|refine wk ?_|exact wkc|intro hc|refine wk2 ?_ ?_|fail)
 refine TR.loopN l.length (fun k=>(l.take k).all (fun x=>!(s == x))=true) (fun k=>[(0,.t (.sl 1 (l.map T.s))),(1,.s s),(7,.i l.length),(8,.i k)]) (fun _=>[]) rfl (fun k hlt ha=>?_) (fun ha=>?_) ⟨rfl,rfl,by rw[<-hml];rfl,rfl,trivial⟩
 ·have hx:=at_s hlt
  have htk:=take_at hlt
  have hat:=idxI_at (fun x=>s == x) l k hlt ha
  generalize l[k]=d at hx htk hat
  repeat' (first|refine wk ?_|exact wkc|intro hc|refine wk2 ?_ ?_|fail)
  ·rw[hat (by simp[hc])];exact wkr
  ·refine LoopK.nextN hlt ?_
   rw[htk,List.all_append,ha]
   simp[hc]
 ·rw[List.take_length]at ha
  rw[idxI_none _ l ha]
  repeat' (first|refine wk ?_|exact wkc|intro hc|refine wk2 ?_ ?_|fail)
  exact wkr
theorem containsS_sound(l:List Str)(hl:l.length≤1000000000)(s:Str):Pure Tryz.prog 232 [.t (.sl 1 (l.map T.s)),.s s] (.b (decide (s∈l))):=by
 have hs:=indexS_sound l hl s
 have ha:=idxI_any (fun x=>s == x) l
 have hm:(l.any fun x=>s == x)=decide (s∈l):=by
  rw[Bool.eq_iff_iff];simp
 rw[hm]at ha
 generalize idxI (fun x=>s == x) l=z at*
 refine so Tryz.func232 ?_
 repeat' (first|refine wk ?_|exact wkc|intro hc|refine wk2 ?_ ?_|refine wv hs ?_|fail)
 all_goals
  refine RetK.pure rfl (Le.of_eq ?_) rfl
  refine congrArg (fun b=>SV.t (T.v (Value.bool b))) ?_
  rw[<-ha];simp;omega
theorem alike1_sound(b:List Str)(hb:b.length≤1000000000)(x:Str):Pure Tryz.prog 288 [.s x,.cp [.sl 1 (b.map T.s)] 0] (.b (!decide (x∈b))):=by
 have hs:=containsS_sound b hb x
 refine so Tryz.func288 ?_
 repeat' (first|refine wu ?_|exact wkc|intro hc|refine wk2 ?_ ?_|refine wb hs ?_ ?_|fail)
 all_goals
  refine RetK.pure rfl (Le.of_eq ?_) rfl
  refine congrArg (fun b=>SV.t (T.v (Value.bool b))) ?_
  rw[hc]
theorem idxS_sound(fid:FuncId)(caps:List SV)(hcaps:unders 0 caps=true)(p:Str->Bool)(l:List Str)(hl:l.length≤1000000000)(hp:∀d,Pure Tryz.prog fid (.s d::caps) (.b (p d))):
  Pure Tryz.prog 333 [.t (.sl 1 (l.map T.s)),.fn fid caps] (.i (idxI p l)):=by
 have hml:(l.map T.s).length=l.length:=List.length_map _
 refine so Tryz.func333 ?_
 repeat' (first|refine wk ?_|exact wkc|intro hc|refine wk2 ?_ ?_|fail)
 refine TR.loopN l.length (fun k=>(l.take k).all (fun x=>!p x)=true) (fun k=>[(0,.t (.sl 1 (l.map T.s))),(1,.fn fid caps),(7,.i l.length),(8,.i k)]) (fun _=>[]) rfl (fun k hlt ha=>?_) (fun ha=>?_) ⟨rfl,rfl,by rw[<-hml];rfl,rfl,trivial⟩
 ·have hx:=at_s hlt
  have htk:=take_at hlt
  have hat:=idxI_at p l k hlt ha
  have hd:=hp l[k]
  generalize l[k]=d at hx htk hat hd
  have hu:unders 0 (.s d::caps)=true:=by simp[unders,SV.under,hcaps]
  repeat' (first|refine wk ?_|exact wkc|intro hc|refine wk2 ?_ ?_|(apply TO.callV hd;exact rfl;exact rfl;exact rfl;exact Les.refl _;exact hu;exact rfl)|fail)
  ·rw[hat hc];exact wkr
  ·refine LoopK.nextN hlt ?_
   rw[htk,List.all_append,ha]
   simp[hc]
 ·rw[List.take_length]at ha
  rw[idxI_none p l ha]
  repeat' (first|refine wk ?_|exact wkc|intro hc|refine wk2 ?_ ?_|fail)
  exact wkr
theorem conS_sound(fid:FuncId)(caps:List SV)(hcaps:unders 0 caps=true)(p:Str->Bool)(l:List Str)(hl:l.length≤1000000000)(hp:∀d,Pure Tryz.prog fid (.s d::caps) (.b (p d))):
  Pure Tryz.prog 287 [.t (.sl 1 (l.map T.s)),.fn fid caps] (.b (l.any p)):=by
 have hs:=idxS_sound fid caps hcaps p l hl hp
 have ha:=idxI_any p l
 generalize idxI p l=z at*
 have hu:unders 0 [.t (.sl 1 (l.map T.s)),.fn fid caps]=true:=by simp[unders,SV.under,hcaps]
 refine so Tryz.func287 ?_
 repeat' (first|refine wk ?_|exact wkc|intro hc|refine wk2 ?_ ?_|(apply TO.callV hs;exact rfl;exact rfl;exact rfl;exact Les.refl _;exact hu;exact rfl)|fail)
 all_goals
  refine RetK.pure rfl (Le.of_eq ?_) rfl
  refine congrArg (fun b=>SV.t (T.v (Value.bool b))) ?_
  rw[<-ha];simp;omega
def alikeB(a b:List Str):Bool:=decide (a.length=b.length) && !(a.any fun x=>!decide (x∈b))
theorem alike_sound(a b:List Str)(ha:a.length≤1000000000)(hb:b.length≤1000000000):Pure Tryz.prog 209 [.t (.sl 1 (a.map T.s)),.t (.sl 1 (b.map T.s))] (.b (alikeB a b)):=by
 have hs:=conS_sound 288 [.cp [.sl 1 (b.map T.s)] 0] rfl (fun x=>!decide (x∈b)) a ha (fun x=>alike1_sound b hb x)
 have m1:(a.map T.s).length=a.length:=List.length_map _
 have m2:(b.map T.s).length=b.length:=List.length_map _
 unfold alikeB
 generalize (a.any fun x=>!decide (x∈b))=z at*
 cases z
 all_goals
  refine so Tryz.func209 ?_
  repeat' (first|refine wu ?_|exact wkc|intro hc|refine wk2 ?_ ?_|(apply TO.callV hs;exact rfl;exact rfl;exact rfl;exact Les.refl _;exact rfl;exact rfl)|fail)
  all_goals
   refine RetK.pure rfl (Le.of_eq ?_) rfl
   refine congrArg (fun b=>SV.t (T.v (Value.bool b))) ?_
   clear hs
   first
   | (simp;omega)
   | (rw[decide_eq_true (by omega)];rfl)
   | (rw[decide_eq_false (by omega)];rfl)
abbrev nameBs (up:SV)(b:Nat):Heap:=[setB [],setB [],.cells [up,.mp b,.mp (b+1),nilM,nilS]]
theorem inner_nil(p:Prog)(n q:Int)(seen:List (Int×Str×Int)):
  Sound Tryz.prog 137 [nilP] [lkB p n q,seenB seen] (fun r H'=>r= .ret (.ref 4 0)/\H'=lkB p n q::seenB seen::nameBs nilP 2):=by
 refine so Tryz.func137 ?_
 refine wk ?_
 exact RetK.keep 5 rfl (Le.refl _) rfl rfl rfl rfl rfl ⟨rfl,rfl⟩
theorem inner_ref(p:Prog)(n q:Int)(seen:List (Int×Str×Int))(h:Ch):
  Sound Tryz.prog 137 [.ref h.id 0] (full p n q seen h) (fun r H'=>r= .ret (.ref (h.N+2) 0)/\H'=full p n q seen h++nameBs (.ref h.id 0) h.N):=by
 cases h
 case one a=>
  refine so Tryz.func137 ?_
  refine wk ?_
  exact RetK.keep 8 rfl (Le.refl _) rfl rfl rfl rfl rfl ⟨rfl,rfl⟩
 case c1=>
  refine so Tryz.func137 ?_
  refine wk ?_
  exact RetK.keep 10 rfl (Le.refl _) rfl rfl rfl rfl rfl ⟨rfl,rfl⟩
 case c2=>
  refine so Tryz.func137 ?_
  refine wk ?_
  exact RetK.keep 14 rfl (Le.refl _) rfl rfl rfl rfl rfl ⟨rfl,rfl⟩
 case c3=>
  refine so Tryz.func137 ?_
  refine wk ?_
  exact RetK.keep 18 rfl (Le.refl _) rfl rfl rfl rfl rfl ⟨rfl,rfl⟩
 case c4=>
  refine so Tryz.func137 ?_
  refine wk ?_
  exact RetK.keep 22 rfl (Le.refl _) rfl rfl rfl rfl rfl ⟨rfl,rfl⟩
abbrev cellS (l:List Str):Blk:=.cells ((l.map T.s).map .t)
theorem cell_at{l:List Str}{k:Nat}(h:k<l.length):((l.map T.s).map SV.t)[0+k*1]?=some (.s l[k]):=by simp[h]
def keepS(own:List Str)(l:List Str):List Str:=l.filter fun x=>!decide (x∈own)
theorem keepS_le(own l:List Str):(keepS own l).length≤l.length:=List.length_filter_le _ _
theorem keepS_take{own l:List Str}{k:Nat}(h:k<l.length):keepS own (l.take (k+1))=keepS own (l.take k)++(if l[k]∈own then[] else[l[k]]):=by
 unfold keepS
 rw[List.take_succ_eq_append_getElem h,List.filter_append]
 by_cases hm:l[k]∈own <;> simp[hm]
theorem keepS_all{own l:List Str}(h:l.all (fun x=>!decide (x∈own))=true):keepS own l=l:=by
 unfold keepS
 rw[List.filter_eq_self]
 intro x hx
 exact List.all_eq_true.1 h x hx
def midS(own l:List Str)(k:Nat):List Str:=keepS own (l.take k)++l.drop (keepS own (l.take k)).length
theorem midS_len(own l:List Str)(k:Nat):(midS own l k).length=l.length:=by
 unfold midS
 have h1:=keepS_le own (l.take k)
 have h2:(l.take k).length≤l.length:=by simp;omega
 simp;omega
theorem midS_at{own l:List Str}{k:Nat}(h:k<l.length):(midS own l k)[k]?=some l[k]:=by
 unfold midS
 have h1:=keepS_le own (l.take k)
 have h2:(l.take k).length=k:=by simp;omega
 rw[List.getElem?_append_right (by omega),List.getElem?_drop,show(keepS own (l.take k)).length+(k-(keepS own (l.take k)).length)=k from by omega]
 exact List.getElem?_eq_getElem h
theorem midS_in{own l:List Str}{k:Nat}(h:k<l.length)(hm:l[k]∈own):midS own l (k+1)=midS own l k:=by
 unfold midS
 rw[keepS_take h,if_pos hm,List.append_nil]
theorem midS_out{own l:List Str}{k:Nat}(h:k<l.length)(hm:l[k] ∉ own):midS own l (k+1)=(midS own l k).set (keepS own (l.take k)).length l[k]:=by
 have h1:=keepS_le own (l.take k)
 have h2:(l.take k).length=k:=by simp;omega
 unfold midS
 rw[keepS_take h,if_neg hm]
 generalize keepS own (l.take k)=K at*
 rw[List.set_append_right _ _ (Nat.le_refl _),Nat.sub_self]
 cases hd:l.drop K.length with
 | nil=>
   have:=congrArg List.length hd
   simp at this;omega
 | cons y r=>
   rw[List.set_cons_zero]
   have hr:l.drop (K.length+1)=r:=by
    have:=congrArg (List.drop 1) hd
    rw[List.drop_drop]at this
    simpa using this
   rw[List.length_append,List.length_singleton,hr]
   simp
theorem midS_first{own l:List Str}{k:Nat}(hk:k<l.length)(ha:(l.take k).all (fun x=>!decide (x∈own))=true)(hm:l[k]∈own):midS own l (k+1)=l/\(keepS own (l.take (k+1))).length=k:=by
 have h2:(l.take k).length=k:=by simp;omega
 unfold midS
 rw[keepS_take hk,if_pos hm,List.append_nil,keepS_all ha,h2]
 exact⟨List.take_append_drop k l,rfl⟩
theorem cellU{k:Nat}{H0:Heap}(h:blksUnder k H0=true)(ts:List T):blksUnder k (H0++[.cells (ts.map .t)])=true:=blksUnder_append h (under_ts k ts)
theorem keepS_lt{own l:List Str}{k:Nat}(hk:k<l.length)(hm:l[k]∈own):(keepS own l).length<l.length:=by
 unfold keepS
 refine List.length_filter_lt_length_iff_exists.2 ⟨l[k],List.getElem_mem hk,by simpa using hm⟩
theorem splice_mid(own l:List Str):splice (((midS own l l.length).map T.s).map SV.t) (0+(keepS own l).length*1) (List.replicate (l.length-(keepS own l).length) (.t (T.s [])))=((keepS own l++List.replicate (l.length-(keepS own l).length) []).map T.s).map .t:=by
 have h1:=keepS_le own l
 unfold splice midS
 rw[List.take_length]
 simp only[Nat.zero_add,Nat.mul_one,List.length_replicate]
 rw[<-List.map_take,<-List.map_take,List.take_left,List.drop_of_length_le (by simp),List.append_nil]
 simp
abbrev outH (p:Prog)(n q:Int)(seen:List (Int×Str×Int))(h:Ch):Heap:=lkB p n q::seenB seen::(h.heap.dropLast++[.dead,.cells [.ref h.id 0]])
theorem del1_sound(p:Prog)(n q:Int)(seen:List (Int×Str×Int))(h:Ch)(hne:8≤h.N)(hk:SetOk h.top.own)(x:Str)(hx:x.length≤1000000000):
  Sound Tryz.prog 286 [.s x,.ref h.N 0] (outH p n q seen h) (fun r H'=>r= .ret (.b (decide (x∈h.top.own)))/\H'=outH p n q seen h):=by
 revert hne hk
 revert h
 refine Ch.lt fun h=>?_
 cases h
 case one=>intro g hne;exact absurd hne (show ¬8≤5 by decide)
 case c1=>intro g hne;exact absurd hne (show ¬8≤7 by decide)
 all_goals
  intro g hne hk
  refine so Tryz.func286 ?_
  repeat' (first|refine wkt ?_|refine wka ?_|refine wk ?_|exact wkc|intro hc|refine wk2 ?_ ?_|(apply TO.setGet;exact rfl;exact rfl;exact rfl;exact rfl;assumption;assumption)|(apply TO.nilGet;exact rfl;exact rfl;exact rfl;assumption)|fail|fail)
  all_goals exact retV rfl (bsv (by simp_all [g,Ch.top])) rfl rfl
theorem didx_sound(p:Prog)(n q:Int)(seen:List (Int×Str×Int))(h:Ch)(hne:8≤h.N)(hk:SetOk h.top.own)(l:List Str)(hl:l.length≤2000000000)(hs:∀x∈l,x.length≤1000000000):
  Sound Tryz.prog 333 [.ms 1 (h.N+1) 0 l.length,.fn 286 [.ref h.N 0]] (outH p n q seen h++[cellS l]) (fun r H'=>r= .ret (.i (idxI (fun x=>decide (x∈h.top.own)) l))/\H'=outH p n q seen h++[cellS l]):=by
 revert hne hk
 revert h
 refine Ch.lt fun h=>?_
 cases h
 case one=>intro g hne;exact absurd hne (show ¬8≤5 by decide)
 case c1=>intro g hne;exact absurd hne (show ¬8≤7 by decide)
 all_goals
  intro g hne hk
  refine so Tryz.func333 ?_
  repeat' (first|refine wk ?_|exact wkc|intro hc|refine wk2 ?_ ?_|fail)
  refine TR.loopN l.length (fun k=>(l.take k).all (fun x=>!decide (x∈g.top.own))=true) (fun k=>[(0,.ms 1 (g.N+1) 0 l.length),(1,.fn 286 [.ref g.N 0]),(7,.i l.length),(8,.i k)]) (fun _=>outH p n q seen g++[cellS l]) rfl (fun k hlt ha=>?_) (fun ha=>?_)
  ·have hx:=cell_at hlt
   have htk:=take_at hlt
   have hat:=idxI_at (fun x=>decide (x∈g.top.own)) l k hlt ha
   have hd:=del1_sound p n q seen g hne hk l[k] (hs _ (List.getElem_mem hlt))
   generalize l[k]=d at hx htk hat hd
   repeat' (first|refine wk ?_|exact wkc|intro hc|refine wk2 ?_ ?_|(apply TO.indexAddr_ms tabOk;exact rfl;exact rfl;exact rfl;exact rfl;exact rfl;exact rfl;exact rfl;omega;omega)|(apply TO.load_ref tabOk;exact rfl;exact rfl;exact rfl;exact rfl;exact rfl;exact hx)|(apply TO.callDb (g.N+1) hd;exact rfl;exact rfl;exact rfl;exact Les.refl _;exact Nat.le_of_ble_eq_true rfl;exact rfl;exact rfl;exact rfl)|fail)
   ·rw[hat hc];exact retV rfl rfl rfl (cellU rfl _)
   ·refine LoopK.nextN hlt ?_
    rw[htk,List.all_append,ha]
    simpa using hc
  ·rw[List.take_length]at ha
   rw[idxI_none _ l ha]
   repeat' (first|refine wk ?_|exact wkc|intro hc|refine wk2 ?_ ?_|fail)
   exact retV rfl rfl rfl (cellU rfl _)
theorem del_sound(p:Prog)(n q:Int)(seen:List (Int×Str×Int))(h:Ch)(hne:8≤h.N)(hk:SetOk h.top.own)(l:List Str)(hl:l.length≤2000000000)(hs:∀x∈l,x.length≤1000000000):
  Sound Tryz.prog 285 [.ms 1 (h.N+1) 0 l.length,.fn 286 [.ref h.N 0]] (outH p n q seen h++[cellS l])
   (fun r H'=>r= .ret (.ms 1 (h.N+1) 0 (keepS h.top.own l).length)/\H'=outH p n q seen h++[.cells (((keepS h.top.own l++List.replicate (l.length-(keepS h.top.own l).length) []).map T.s).map .t)]):=by
 revert hne hk
 revert h
 refine Ch.lt fun h=>?_
 cases h
 case one=>intro g hne;exact absurd hne (show ¬8≤5 by decide)
 case c1=>intro g hne;exact absurd hne (show ¬8≤7 by decide)
 all_goals
  intro g hne hk
  have hd0:=didx_sound p n q seen g hne hk l hl hs
  rcases idxI_range (fun x=>decide (x∈g.top.own)) l with h|⟨k0,hk0,h,hp⟩
  ·rw[h]at hd0
   have hall:l.all (fun x=>!decide (x∈g.top.own))=true:=by
    have:=idxI_any (fun x=>decide (x∈g.top.own)) l
    rw[h]at this
    rw[List.all_eq_not_any_not]
    simpa using this
   rw[keepS_all hall,Nat.sub_self]
   simp only[List.replicate_zero,List.append_nil]
   refine so Tryz.func285 ?_
   repeat' (first|refine wk ?_|exact wkc|intro hc|refine wk2 ?_ ?_|(apply TO.callD (g.N+2) hd0;exact rfl;exact rfl;exact rfl;exact Les.refl _;exact rfl;exact rfl;exact rfl;exact cellU rfl _;exact rfl;exact rfl;exact cellU rfl _;exact forceL_self _)|fail)
   exact retV rfl rfl rfl (cellU rfl _)
  ·rw[h]at hd0
   have hin:l[k0]∈g.top.own:=by simpa using hp
   have hall:(l.take k0).all (fun x=>!decide (x∈g.top.own))=true:=by
    have:∀(l:List Str) (k:Nat),idxI (fun x=>decide (x∈g.top.own)) l=k->(l.take k).all (fun x=>!decide (x∈g.top.own))=true:=by
     intro l
     induction l with
     | nil=>intro k _;simp
     | cons y l ih=>
       intro k hk
       unfold idxI at hk
       by_cases hy:decide (y∈g.top.own)=true
       ·rw[if_pos hy]at hk
        have:k=0:=by omega
        subst this;rfl
       ·rw[if_neg hy]at hk
        split at hk
        ·omega
        ·obtain⟨k',rfl⟩:∃k',k=k'+1:=⟨k-1,by omega⟩
         rw[List.take_succ_cons,List.all_cons,ih k' (by omega)]
         simpa using hy
    exact this l k0 h
   obtain⟨f1,f2⟩:=midS_first hk0 hall hin
   have hlt1:=keepS_lt hk0 hin
   refine so Tryz.func285 ?_
   repeat' (first|refine wk ?_|exact wkc|intro hc|refine wk2 ?_ ?_|(apply TO.callD (g.N+2) hd0;exact rfl;exact rfl;exact rfl;exact Les.refl _;exact rfl;exact rfl;exact rfl;exact cellU rfl _;exact rfl;exact rfl;exact cellU rfl _;exact forceL_self _)|fail)
   refine TR.loopN (l.length-(k0+1)) (fun _=>True) (fun k=>[(0,.ms 1 (g.N+1) 0 l.length),(1,.fn 286 [.ref g.N 0]),(5,.i (keepS g.top.own (l.take (k0+1+k))).length),(6,.i ((k0+1+k:Nat):Int))]) (fun k=>outH p n q seen g++[cellS (midS g.top.own l (k0+1+k))]) trivial (fun k hlt _=>?_) (fun _=>?_) ⟨rfl,rfl,by rw[Nat.add_zero,f2];rfl,rfl,trivial⟩ (by rw[Nat.add_zero,f1];rfl)
   ·have hj:k0+1+k<l.length:=by omega
    have hkl:=keepS_le g.top.own (l.take (k0+1+k))
    have htl:(l.take (k0+1+k)).length=k0+1+k:=by simp;omega
    have hml:(((midS g.top.own l (k0+1+k)).map T.s).map SV.t).length=l.length:=by rw[List.length_map,List.length_map,midS_len]
    have hx:(((midS g.top.own l (k0+1+k)).map T.s).map SV.t)[0+(k0+1+k)*1]?=some (.s l[k0+1+k]):=by
     rw[Nat.zero_add,Nat.mul_one,List.getElem?_map,List.getElem?_map,midS_at hj];rfl
    have hd:=del1_sound p n q seen g hne hk l[k0+1+k] (hs _ (List.getElem_mem hj))
    have g1:=midS_in (own:=g.top.own) hj
    have g2:=midS_out (own:=g.top.own) hj
    have g3:=keepS_take (own:=g.top.own) hj
    generalize l[k0+1+k]=x at*
    generalize keepS g.top.own (l.take (k0+1+k))=KS at*
    generalize midS g.top.own l (k0+1+k)=MS at*
    repeat' (first|refine wk ?_|exact wkc|intro hc|refine wk2 ?_ ?_|(apply TO.indexAddr_ms tabOk;exact rfl;exact rfl;exact rfl;exact rfl;exact rfl;exact rfl;exact rfl;omega;omega)|(apply TO.load_ref tabOk;exact rfl;exact rfl;exact rfl;exact rfl;exact rfl;exact hx)|(apply TO.callDb (g.N+1) hd;exact rfl;exact rfl;exact rfl;exact Les.refl _;exact Nat.le_of_ble_eq_true rfl;exact rfl;exact rfl;exact rfl)|(apply TO.store1 tabOk;exact rfl;exact rfl;exact rfl;exact rfl;exact rfl;exact rfl;exact rfl;(show 0+KS.length*1<_;rw[hml];omega);exact rfl)|fail)
    ·have hxo:x∈g.top.own:=by simpa using hc
     rw[if_pos hxo,List.append_nil]at g3
     refine LoopK.nextN hlt trivial ⟨rfl,rfl,?_,rfl,trivial⟩ ?_
     ·rw[show keepS g.top.own (l.take (k0+1+(k+1)))=KS from g3];rfl
     ·rw[show midS g.top.own l (k0+1+(k+1))=MS from g1 hxo]
    ·have hxo:x ∉ g.top.own:=by simpa using hc
     rw[if_neg hxo]at g3
     refine LoopK.nextN hlt trivial ⟨rfl,rfl,?_,rfl,trivial⟩ ?_
     ·rw[show keepS g.top.own (l.take (k0+1+(k+1)))=KS++[x] from g3,List.length_append];rfl
     ·rw[show midS g.top.own l (k0+1+(k+1))=MS.set KS.length x from g2 hxo]
      show _=outH p n q seen g++[cellS (MS.set KS.length x)]
      unfold cellS
      rw[List.map_set,List.map_set]
      show _=outH p n q seen g++[Blk.cells (((MS.map T.s).map SV.t).set KS.length (.s x))]
      conv=>rhs;rw[show KS.length=0+KS.length*1 from by omega]
      rfl
   ·have hll:k0+1+(l.length-(k0+1))=l.length:=by omega
    have hsp:=splice_mid g.top.own l
    have hml:(((midS g.top.own l l.length).map T.s).map SV.t).length=l.length:=by rw[List.length_map,List.length_map,midS_len]
    rw[hll,List.take_length]
    generalize keepS g.top.own l=KS at*
    generalize midS g.top.own l l.length=MS at*
    repeat' (first|refine wk ?_|exact wkc|intro hc|refine wk2 ?_ ?_|(apply TO.slice_mslo tabOk;exact rfl;exact rfl;exact rfl;exact rfl;exact rfl;exact rfl;exact rfl;omega)|(apply TO.slice_ms tabOk;exact rfl;exact rfl;exact rfl;exact rfl;exact rfl;exact rfl;omega)|(apply TO.clear1 tabOk;exact rfl;exact rfl;exact rfl;exact rfl;exact rfl;exact rfl;exact rfl;omega;(show 0+KS.length*1+(l.length-KS.length)≤_;rw[hml];omega);exact rfl)|fail)
    refine RetK.keep (g.N+2) (v:=.ms 1 (g.N+1) 0 KS.length) rfl (Le.refl _) rfl rfl rfl (H':=outH p n q seen g++[.cells (((KS++List.replicate (l.length-KS.length) []).map T.s).map .t)]) ?_ (cellU rfl _) ⟨rfl,rfl⟩
    rw[<-hsp];rfl
def dupE:List Str->List Str->Int
 | _,[]=>0
 | pre,s::l=>if s∈pre then 7 else dupE (pre++[s]) l
def lv0:Lv:=⟨[],[],[]⟩
def stS(p:Prog)(seen:List (Int×Str×Int))(node:Int)(F:List Str->List Str->Lv->Auto->Lv×Int)(vis low:List Str)(s:Sta):List Str×Int:=
 let r1:=foldS (declF seen vis) lv0 s.locals
 let r2:=foldS (equS p seen node vis low) r1.1 s.eqs
 let r3:=foldS (F vis low) r2.1 s.autos
 (keepS r3.1.own r3.1.defs,
   orE r1.2 (orE (samplE (vis++r1.1.own) s.locals) (orE r2.2 (orE r3.2 (orE (condS p seen node vis s.unl) (orE (condS p seen node (vis++r3.1.own) s.unt) (firstE (fun d:Decl=>if d.name∈r3.1.done then 0 else 8) s.locals)))))))
def firstOf(l:List (List Str×Int)):List Str:=(l.headD ([],0)).1
def sameAll(l:List (List Str×Int)):Bool:=l.all fun r=>alikeB r.1 (firstOf l)
def autoS(p:Prog)(seen:List (Int×Str×Int))(node:Int):Nat->List Str->List Str->Lv->Auto->Lv×Int
 | 0,_,_,t,_=>(t,0)
 | k+1,vis0,low,t,a=>
   let rs:=a.states.map (stS p seen node (autoS p seen node k) (vis0++t.own) (low++t.done))
   (⟨t.own,(firstOf rs).foldl ins t.done,t.defs++firstOf rs⟩,orE (dupE [] (a.states.map Sta.name)) (orE (firstE Prod.snd rs) (if sameAll rs=true then 0 else 8)))
def nestOk:Nat->Auto->Prop
 | 0,_=>False
 | k+1,a=>∀s∈a.states,∀b∈s.autos,nestOk k b
structure Good (own:List Str) (B:Nat) (a:Lv):Prop where
 ok:a.ok
 own:a.own=own
 len:a.defs.length≤B
 short:∀s∈a.defs,s.length≤1000000000
theorem Good.mono{own:List Str}{B B':Nat}{a:Lv}(h:Good own B a)(hb:B≤B'):Good own B' a:=⟨h.ok,h.own,Nat.le_trans h.len hb,h.short⟩
theorem fold_goodM{α β:Type}{f:β->α->β×Int}{G:Nat->β->Prop}{w:α->Nat}(l:List α)(step:∀B a x,x∈l->G B a->(f a x).2=0->G (B+w x) (f a x).1):∀(B:Nat) (a:β),G B a->(foldS f a l).2=0->G (B+(l.map w).sum) (foldS f a l).1:=by
 induction l with
 | nil=>intro B a h _;simpa [foldS]using h
 | cons x l ih=>
   intro B a h hz
   unfold foldS at hz⊢
   split at hz
   ·rename_i h0
    rw[if_pos h0]
    have:=ih (fun B a y hy=>step B a y (by simp[hy])) _ _ (step B a x (by simp) h h0) hz
    rw[List.map_cons,List.sum_cons,<-Nat.add_assoc]
    exact this
   ·rename_i h0;exact absurd hz h0
theorem fold_takeM{α β:Type}{f:β->α->β×Int}{G:Nat->β->Prop}{w:α->Nat}(l:List α)(step:∀B a x,x∈l->G B a->(f a x).2=0->G (B+w x) (f a x).1)(B:Nat)(a:β)(h:G B a){k:Nat}(hz:(foldS f a (l.take k)).2=0):G (B+((l.take k).map w).sum) (foldS f a (l.take k)).1:=
 fold_goodM (l.take k) (fun B a x hx=>step B a x (List.mem_of_mem_take hx)) B a h hz
theorem sum_one{α:Type}:∀(l:List α),(l.map fun _=>1).sum=l.length
 | []=>rfl
 | x::l=>by simp[sum_one l];omega
theorem left_good{vis low own:List Str}{B:Nat}{a:Lv}{s:Str}(hs:s.length≤1000000000)(h:Good own B a):Good own (B+1) (leftF vis low a s).1:=by
 refine⟨h.ok.addDone hs,h.own,?_,fun x hx=>?_⟩
 ·have:=h.len
  simp[leftF,Lv.addDone];omega
 ·simp[leftF,Lv.addDone]at hx
  rcases hx with hx|rfl
  ·exact h.short x hx
  ·exact hs
theorem equ_good{p:Prog}{seen:List (Int×Str×Int)}{node:Int}{vis0 low own:List Str}{B:Nat}{a:Lv}{u:Equ}(hw:(equT u).w≤1000000000)(h:Good own B a)(hz:(equS p seen node vis0 low a u).2=0):Good own (B+(equT u).w) (equS p seen node vis0 low a u).1:=by
 unfold equS at hz⊢
 simp only[orE]at hz
 have h1:(foldS (leftF (vis0++a.own) low) a u.left).2=0:=by
  split at hz
  ·assumption
  ·exact hz
 have:=fold_goodM (G:=Good own) (w:=fun _=>1) u.left (fun B a x hx h _=>left_good (Nat.le_trans (left_w hx) hw) h) B a h h1
 refine this.mono ?_
 have:=left_equ (q:=u)
 rw[sum_one];omega
theorem st_good{p:Prog}{seen:List (Int×Str×Int)}{node:Int}{F:List Str->List Str->Lv->Auto->Lv×Int}{vis low:List Str}{s:Sta}(hw:(staT s).w≤1000000000)
  (hF:∀own B t b,b∈s.autos->Good own B t->(F vis low t b).2=0->Good own (B+(autoT b).w) (F vis low t b).1)(hz:(stS p seen node F vis low s).2=0):
  (stS p seen node F vis low s).1.length≤(staT s).w/\∀x∈(stS p seen node F vis low s).1,x.length≤1000000000:=by
 have hws:=w_sta s
 unfold stS at hz⊢
 simp only[orE]at hz⊢
 have z1:(foldS (declF seen vis) lv0 s.locals).2=0:=by grind
 have z2:(foldS (equS p seen node vis low) (foldS (declF seen vis) lv0 s.locals).1 s.eqs).2=0:=by grind
 have z3:(foldS (F vis low) (foldS (equS p seen node vis low) (foldS (declF seen vis) lv0 s.locals).1 s.eqs).1 s.autos).2=0:=by grind
 have g0:(fun(B:Nat) (a:Lv)=>a.ok/\a.defs=[]) 0 lv0:=⟨⟨SetOk.nil,SetOk.nil⟩,rfl⟩
 have g1:=fold_goodM (f:=declF seen vis) (G:=fun(B:Nat) (a:Lv)=>a.ok/\a.defs=[]) (w:=fun _=>0) s.locals (fun B a x hx h _=>⟨h.1.addOwn (by have:=(name_decl hx).1;omega),h.2⟩) 0 lv0 g0 z1
 have g2:=fold_goodM (f:=equS p seen node vis low) (G:=Good (foldS (declF seen vis) lv0 s.locals).1.own) (w:=fun u=>(equT u).w) s.eqs (fun B a x hx h hz=>equ_good (by have:=w_inM (f:=equT) (sz:=7) hx;omega) h hz) 0 _ ⟨g1.1,rfl,by rw[g1.2];exact Nat.le_refl _,by rw[g1.2];simp⟩ z2
 have g3:=fold_goodM (f:=F vis low) (G:=Good (foldS (declF seen vis) lv0 s.locals).1.own) (w:=fun b=>(autoT b).w) s.autos (fun B a x hx h hz=>hF _ B a x hx h hz) _ _ g2 z3
 refine⟨?_,fun x hx=>g3.short x ((List.mem_filter.1 hx).1)⟩
 refine Nat.le_trans (keepS_le _ _) ?_
 have h3:=g3.len
 have e1:((s.eqs.map fun u=>(equT u).w)).sum≤(T.sl 7 (s.eqs.map equT)).w:=by
  rw[w_sl,List.map_map];simp only[Function.comp_def];omega
 have e2:((s.autos.map fun u=>(autoT u).w)).sum≤(T.sl 1 (s.autos.map autoT)).w:=by
  rw[w_sl,List.map_map];simp only[Function.comp_def];omega
 omega
theorem auto_good{p:Prog}{seen:List (Int×Str×Int)}{node:Int}:∀(k:Nat) {vis0 low own:List Str} {B:Nat} {t:Lv} {a:Auto},(autoT a).w≤1000000000->Good own B t->(autoS p seen node k vis0 low t a).2=0->Good own (B+(autoT a).w) (autoS p seen node k vis0 low t a).1
 | 0,vis0,low,own,B,t,a,hw,h,hz=>h.mono (by omega)
 | k+1,vis0,low,own,B,t,a,hw,h,hz=>by
   have hwa:=w_auto a
   unfold autoS at hz⊢
   simp only[orE]at hz⊢
   have z1:firstE Prod.snd (a.states.map (stS p seen node (autoS p seen node k) (vis0++t.own) (low++t.done)))=0:=by grind
   have hfs:(firstOf (a.states.map (stS p seen node (autoS p seen node k) (vis0++t.own) (low++t.done)))).length≤(autoT a).w/\∀x∈firstOf (a.states.map (stS p seen node (autoS p seen node k) (vis0++t.own) (low++t.done))),x.length≤1000000000:=by
    cases hs:a.states with
    | nil=>simp[firstOf]
    | cons s l=>
      have hm:s∈a.states:=by rw[hs];simp
      have hws:=w_inM (f:=staT) (sz:=6) hm
      have z2:(stS p seen node (autoS p seen node k) (vis0++t.own) (low++t.done) s).2=0:=by
       rw[hs,List.map_cons,firstE]at z1
       split at z1
       ·assumption
       ·exact z1
      have:=st_good (by omega) (fun own B t b hb hg hz=>auto_good k (by have:=w_inM (f:=autoT) (sz:=1) hb;have:=w_sta s;omega) hg hz) z2
      simp only[firstOf,List.map_cons,List.headD_cons]
      exact⟨by omega,this.2⟩
   generalize firstOf (a.states.map (stS p seen node (autoS p seen node k) (vis0++t.own) (low++t.done)))=fs at*
   refine⟨⟨h.ok.own,?_⟩,h.own,?_,fun x hx=>?_⟩
   ·have:∀(l:List Str) (d:List Str),SetOk d->(∀x∈l,x.length≤1000000000)->SetOk (l.foldl ins d):=by
     intro l
     induction l with
     | nil=>intro d hd _;exact hd
     | cons y l ih=>intro d hd hl;exact ih _ (hd.ins (hl y (by simp))) (fun x hx=>hl x (by simp[hx]))
    exact this fs t.done h.ok.done hfs.2
   ·have:=h.len
    simp;omega
   ·simp at hx
    rcases hx with hx|hx
    ·exact h.short x hx
    ·exact hfs.2 x hx
end Go.Proofs.YtddaclniamlmbaaGreatDoor
