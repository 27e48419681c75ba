import Derived.Test.YtddaclniamlmbaaGreatDoorPk17
import Derived.Test.YtddaclniamlmbaaGreatDoorPk18
set_option linter.unusedSimpArgs false
set_option linter.unusedVariables false
namespace Go.Proofs.YtddaclniamlmbaaGreatDoor
open Go Go.TL
attribute [local irreducible] TR TO Then InBlock RetK Sound LoopK Kf GG ThenL
def heads:List (List Int×Int)->List Int×Int
 | []=>([],0)
 | x::r=>if x.2≠0 then([],x.2) else if(heads r).2≠0 then([],(heads r).2) else(x.1.headD 0::(heads r).1,0)
def kindT(w:Plc)(e:Ex)(l:List Int)(inner:Bool):List Int×Int:=
 if e.kind.1=1 then([e.t.1],0)
 else if e.kind.1=11 then([1],0)
 else if e.kind.1=2 then(if(lookT w.env e.name).2=false then([],6) else([(lookT w.env e.name).1],0))
 else if e.kind.1=3 then(if(resultOp e.op.1 l).2≠0 then([],(resultOp e.op.1 l).2) else([(resultOp e.op.1 l).1],0))
 else if e.kind.1=4 then(if l.getD 0 0≠1\/l.getD 1 0≠l.getD 2 0 then([],10) else([l.getD 1 0],0))
 else if e.kind.1=5\/e.kind.1=6\/e.kind.1=7 then(if eqAll l=false then([],10) else([l.headD 0],0))
 else if e.kind.1=8\/e.kind.1=9 then(if clockT w.env e.name e.t.1≠0 then([],clockT w.env e.name e.t.1) else if eqAll l=false then([],10) else([l.headD 0],0))
 else callT w e l inner
def resT(w:Plc)(inner:Bool):Ex->List Int×Int
 | .mk k o t v n l=>
   if(heads (l.attach.map fun x=>resT w true x.1)).2≠0 then([],(heads (l.attach.map fun x=>resT w true x.1)).2)
   else kindT w (.mk k o t v n l) (heads (l.attach.map fun x=>resT w true x.1)).1 inner
decreasing_by
 all_goals
  have:=List.sizeOf_lt_of_mem x.2
  simp;omega
theorem resT_eq(w:Plc)(inner:Bool)(e:Ex):resT w inner e=if(heads (e.args.map (resT w true))).2≠0 then([],(heads (e.args.map (resT w true))).2) else kindT w e (heads (e.args.map (resT w true))).1 inner:=by
 cases e with
 | mk k o t v n l=>
 rw[resT]
 have h:l.attach.map (fun x=>resT w true x.1)=l.map (resT w true):=by simp
 rw[h]
 rfl
structure Arity (e:Ex):Prop where
 kind:1≤e.kind.1/\e.kind.1≤11
 k4:e.kind.1=4->e.args.length=3
 k5:e.kind.1=5->e.args.length=1
 more:6≤e.kind.1->e.kind.1≤9->1≤e.args.length
 v:e.kind.1=10->e.v.1=0\/e.v.1=1
theorem arity_of{e:Ex}(h:oneX e=0):Arity e:=by
 unfold oneX at h
 rw[oneI_eq _ _ _ _ _ _ (by omega)]at h
 have hf:formI e.kind.1 e.op.1 e.t.1 e.v.1 e.name e.args.length=true:=by
  cases hq:formI e.kind.1 e.op.1 e.t.1 e.v.1 e.name e.args.length with
  | true=>rfl
  | false=>rw[hq]at h;simp at h;split at h <;> simp at h
 clear h
 unfold formI at hf
 split at hf
 ·cases hf
 rename_i h1
 have ha:argsI e.kind.1 e.op.1 e.t.1 e.v.1 e.args.length=true:=by
  cases hq:argsI e.kind.1 e.op.1 e.t.1 e.v.1 e.args.length with
  | true=>rfl
  | false=>exact absurd (.inr (.inr hq)) h1
 unfold argsI at ha
 refine⟨by omega,fun hk=>?_,fun hk=>?_,fun hk1 hk2=>?_,fun hk=>?_⟩
 ·rw[hk]at ha;simp at ha;omega
 ·rw[hk]at ha;simp at ha;omega
 ·have:e.kind.1=6\/e.kind.1=7\/e.kind.1=8\/e.kind.1=9:=by omega
  rcases this with hk|hk|hk|hk <;> rw[hk]at ha <;> simp at ha
  ·omega
  ·omega
  ·omega
  ·split at ha <;> omega
 ·rw[hk]at hf
  simp at hf
  grind
theorem callT_one{w:Plc}{e:Ex}{l:List Int}(h:(callT w e l true).2=0):(callT w e l true).1.length=1:=by
 unfold callT at*
 split at h
 ·simp at h
 ·rename_i h1
  rw[if_neg h1]
  split at h
  ·simp at h
  ·rename_i n hn
   split at h
   ·simp at h
   ·rename_i h2
    rw[if_neg h2]
    split at h
    ·simp at h
    ·rename_i h3
     rw[if_neg h3]
     split at h
     ·simp at h
     ·rename_i h4
      rw[if_neg h4]
      simp at h2⊢
      exact h2.2
theorem resT_one{w:Plc}{e:Ex}(h:(resT w true e).2=0):(resT w true e).1.length=1:=by
 rw[resT_eq]at*
 split at h
 ·rename_i h1;exact absurd h h1
 ·rename_i h1
  rw[if_neg h1]
  generalize (heads (e.args.map (resT w true))).1=l at*
  unfold kindT at*
  repeat' split at h
  all_goals first
   | (exfalso;simp_all;done)
   | (simp_all;done)
   | (simp_all;exact callT_one h)
theorem heads_len:∀(rs:List (List Int×Int)),(heads rs).2=0->(heads rs).1.length=rs.length
 | [],_=>rfl
 | x::r,h=>by
   unfold heads at*
   split at h
   ·rename_i h1;exact absurd h h1
   ·rename_i h1
    rw[if_neg h1]
    split at h
    ·rename_i h2;exact absurd h h2
    ·rename_i h2
     rw[if_neg h2]
     simp[heads_len r (by simpa using h2)]
theorem heads_err:∀(rs:List (List Int×Int)),(heads rs).2≠0->(heads rs).1=[]
 | [],h=>rfl
 | x::r,h=>by
   unfold heads at*
   split
   ·rfl
   ·rename_i h1
    rw[if_neg h1]at h
    split
    ·rfl
    ·rename_i h2;rw[if_neg h2]at h;exact absurd rfl h
theorem heads_append:∀(a b:List (List Int×Int)),heads (a++b)=if(heads a).2≠0 then([],(heads a).2) else if(heads b).2≠0 then([],(heads b).2) else((heads a).1++(heads b).1,0)
 | [],b=>by
   simp only[List.nil_append,heads]
   by_cases h:(heads b).2=0
   ·simp[h];exact Prod.ext rfl h
   ·simp[h];exact Prod.ext (heads_err b h) rfl
 | x::a,b=>by
   have ih:=heads_append a b
   simp only[List.cons_append,heads,ih]
   by_cases h1:x.2=0
   ·by_cases h2:(heads a).2=0
    ·by_cases h3:(heads b).2=0
     ·simp[h1,h2,h3]
     ·simp[h1,h2,h3]
    ·simp[h1,h2]
   ·simp[h1]
theorem args_sound(w:Plc)(l:List Ex)(hl:l.length≤1000000000)(ih:∀x∈l,Pure Tryz.prog 39 [.t (plcT w),.t (exT x),.b true] (.tup [.t (intsT (resT w true x).1),.i (resT w true x).2])):
  Pure Tryz.prog 87 [.t (plcT w),.t (.sl 6 (l.map exT))] (.tup [.t (intsT (heads (l.map (resT w true))).1),.i (heads (l.map (resT w true))).2]):=by
 have hml:(l.map exT).length=l.length:=List.length_map _
 have hR:∀x,(resT w true x).2=0->(resT w true x).1.length=1:=fun x=>resT_one
 generalize resT w true=R at ih hR⊢
 unfold plcT plcC at*
 refine so Tryz.func87 ?_
 repeat' (first|refine wu ?_|exact wkc|intro hc|refine wk2 ?_ ?_|fail)
 refine TR.tail 1 6 rfl ?_
 refine TR.loopN l.length (fun k=>(heads ((l.take k).map R)).2=0) (fun k=>[(2,.cp [.sl 2 (w.p.enums.map enT),nodesT w.p.nodes,T.n w.node,declsT w.env] 0),(6,.sl 1 (((heads ((l.take k).map R)).1).map T.i) 0),(11,.t (.sl 6 (l.map exT))),(12,.i l.length),(13,.i k)])
  (fun k=>[.tail (((heads ((l.take k).map R)).1).map T.i).length]) rfl (fun k hlt ha=>?_) (fun ha=>?_) ⟨rfl,rfl,rfl,by rw[<-hml];rfl,rfl,trivial⟩
 ·have hx:=at_exT hlt
  have hs:=ih l[k] (List.getElem_mem hlt)
  have hr:=hR l[k]
  have htk:heads ((l.take (k+1)).map R)=if(R l[k]).2≠0 then([],(R l[k]).2) else((heads ((l.take k).map R)).1++[(R l[k]).1.headD 0],0):=by
   rw[take_at hlt,List.map_append,heads_append,if_neg (by simpa using ha)]
   by_cases h:(R l[k]).2=0
   ·simp[heads,h]
   ·simp[heads,h]
  have hbad:(R l[k]).2≠0->heads (l.map R)=([],(R l[k]).2):=by
   intro h
   conv=>lhs;rw[<-List.take_append_drop (k+1) l]
   rw[List.map_append,heads_append,htk,if_pos h]
   simp[h]
  have hlen:(heads ((l.take k).map R)).1.length=k:=by rw[heads_len _ ha];simp;omega
  have hlenm:((heads ((l.take k).map R)).1.map T.i).length=k:=by rw[List.length_map,hlen]
  rw[exT_eq]at hs
  generalize R l[k]=r at*
  obtain⟨rl,re⟩:=r
  simp only at hs hr htk hbad
  generalize l[k]=x at*
  unfold exC at hx hs
  generalize (heads ((l.take k).map R)).1=acc at*
  by_cases he:re=0
  ·obtain⟨t0,rfl⟩:∃t0,rl=[t0]:=by
    have:=hr he
    match rl,this with
    | [a],_=>exact⟨a,rfl⟩
   subst he
   rw[if_neg (by simp)]at htk
   repeat' (first|refine wu ?_|exact wkc|intro hc|refine wk2 ?_ ?_|refine wv hs ?_|fail)
   exact LoopK.nextN hlt (by rw[htk]) (by rw[htk,List.map_append];exact⟨rfl,rfl,rfl,rfl,rfl,trivial⟩) (by rw[htk,List.map_append,List.length_append];rfl)
  ·rw[hbad he]
   repeat' (first|refine wu ?_|exact wkc|intro hc|refine wk2 ?_ ?_|refine wv hs ?_|fail)
   exact wkr
 ·rw[List.take_length]at ha⊢
  rw[ha]
  repeat' (first|refine wu ?_|exact wkc|intro hc|refine wk2 ?_ ?_|fail)
  exact wkr
abbrev ArgsP (w:Plc)(e:Ex)(l:List Int)(f:Int):Prop:=Pure Tryz.prog 87 [.t (plcT w),.t (.sl 6 (e.args.map exT))] (.tup [.t (intsT l),.i f])
abbrev ResP (w:Plc)(e:Ex)(inner:Bool)(r:List Int×Int):Prop:=Pure Tryz.prog 39 [.t (plcT w),.t (.ag (exC e)),.b inner] (.tup [.t (intsT r.1),.i r.2])
theorem res_bad{w:Plc}{e:Ex}{l:List Int}{f:Int}(hf:f≠0)(hargs:ArgsP w e l f)(inner:Bool):ResP w e inner ([],f):=by
 unfold ArgsP ResP plcT plcC exC at*
 refine so Tryz.func39 ?_
 repeat' (first|refine wu ?_|exact wkc|intro hc|refine wk2 ?_ ?_|refine wv hargs ?_|fail)
 exact wkr
theorem res_1{w:Plc}{e:Ex}{l:List Int}(hargs:ArgsP w e l 0)(h1:e.kind.1=1)(inner:Bool):ResP w e inner ([e.t.1],0):=by
 unfold ArgsP ResP plcT plcC exC at*
 refine so Tryz.func39 ?_
 repeat' (first|refine wu ?_|exact wkc|intro hc|refine wk2 ?_ ?_|refine wv hargs ?_|fail)
 exact wkr
theorem res_11{w:Plc}{e:Ex}{l:List Int}(hargs:ArgsP w e l 0)(h1:e.kind.1=11)(inner:Bool):ResP w e inner ([1],0):=by
 unfold ArgsP ResP plcT plcC exC at*
 refine so Tryz.func39 ?_
 repeat' (first|refine wu ?_|exact wkc|intro hc|refine wk2 ?_ ?_|refine wv hargs ?_|fail)
 exact wkr
theorem res_2{w:Plc}{e:Ex}{l:List Int}(hargs:ArgsP w e l 0)(h2:e.kind.1=2)(hw:SmallW w)(inner:Bool):ResP w e inner (if(lookT w.env e.name).2=false then([],6) else([(lookT w.env e.name).1],0)):=by
 have hto:=typeOf_sound w e.name hw.env
 unfold ArgsP ResP plcT plcC exC at*
 cases hb:(lookT w.env e.name).2
 all_goals
  rw[hb]at hto
  simp only[Bool.true_eq_false,if_true,if_false]
  refine so Tryz.func39 ?_
  repeat' (first|refine wu ?_|exact wkc|intro hc|refine wk2 ?_ ?_|refine wv hargs ?_|refine wv hto ?_|fail)
  exact wkr
theorem res_3{w:Plc}{e:Ex}{l:List Int}(hargs:ArgsP w e l 0)(h3:e.kind.1=3)(inner:Bool):ResP w e inner (if(resultOp e.op.1 l).2≠0 then([],(resultOp e.op.1 l).2) else([(resultOp e.op.1 l).1],0)):=by
 have hres:=result_sound e.op.1 l
 unfold ArgsP ResP plcT plcC exC at*
 by_cases hr:(resultOp e.op.1 l).2=0
 ·rw[if_neg (by simp[hr])]
  rw[hr]at hres
  refine so Tryz.func39 ?_
  repeat' (first|refine wu ?_|exact wkc|intro hc|refine wk2 ?_ ?_|refine wv hargs ?_|refine wv hres ?_|fail)
  exact wkr
 ·rw[if_pos hr]
  generalize (resultOp e.op.1 l).2=f at hr hres⊢
  refine so Tryz.func39 ?_
  repeat' (first|refine wu ?_|exact wkc|intro hc|refine wk2 ?_ ?_|refine wv hargs ?_|refine wv hres ?_|fail)
  exact wkr
theorem res_4{w:Plc}{e:Ex}{l:List Int}(hargs:ArgsP w e l 0)(h4:e.kind.1=4)(hll:l.length=3)(inner:Bool):ResP w e inner (if l.getD 0 0≠1\/l.getD 1 0≠l.getD 2 0 then([],10) else([l.getD 1 0],0)):=by
 unfold ArgsP ResP plcT plcC exC at*
 obtain⟨a,b,c,rfl⟩:∃a b c,l=[a,b,c]:=by
  match l,hll with
  | [a,b,c],_=>exact⟨a,b,c,rfl⟩
 clear hll
 simp only[List.getD_cons_zero,List.getD_cons_succ]
 by_cases hr:a≠1\/b≠c
 ·rw[if_pos hr]
  refine so Tryz.func39 ?_
  repeat' (first|refine wu ?_|exact wkc|intro hc|refine wk2 ?_ ?_|refine wv hargs ?_|fail)
  all_goals first
   | exact wkr
   | (exfalso;grind)
 ·rw[if_neg hr]
  obtain⟨rfl,rfl⟩:a=1/\b=c:=by
   refine⟨Classical.byContradiction fun h=>hr (.inl h),Classical.byContradiction fun h=>hr (.inr h)⟩
  refine so Tryz.func39 ?_
  repeat' (first|refine wu ?_|exact wkc|intro hc|refine wk2 ?_ ?_|refine wv hargs ?_|fail)
  all_goals first
   | exact wkr
   | (exfalso;grind)
theorem res_5{w:Plc}{e:Ex}{l:List Int}(hargs:ArgsP w e l 0)(h5:e.kind.1=5\/e.kind.1=6\/e.kind.1=7)(hll:1≤l.length)(hlb:l.length≤1000000000)(inner:Bool):ResP w e inner (if eqAll l=false then([],10) else([l.headD 0],0)):=by
 have heq:=equal_sound l hlb
 unfold ArgsP ResP plcT plcC exC at*
 obtain⟨a,r,rfl⟩:∃a r,l=a::r:=by
  match l,hll with
  | a::r,_=>exact⟨a,r,rfl⟩
 clear hll
 simp only[List.headD_cons]
 cases hq:eqAll (a::r)
 all_goals
  rw[hq]at heq
  simp only[Bool.true_eq_false,if_true,if_false]
  rcases h5 with h5|h5|h5
  all_goals
   refine so Tryz.func39 ?_
   repeat' (first|refine wu ?_|exact wkc|intro hc|refine wk2 ?_ ?_|refine wv hargs ?_|refine wv heq ?_|fail)
   exact wkr
theorem res_8{w:Plc}{e:Ex}{l:List Int}(hargs:ArgsP w e l 0)(h8:e.kind.1=8\/e.kind.1=9)(hw:SmallW w)(hll:1≤l.length)(hlb:l.length≤1000000000)(inner:Bool):ResP w e inner (if clockT w.env e.name e.t.1≠0 then([],clockT w.env e.name e.t.1) else if eqAll l=false then([],10) else([l.headD 0],0)):=by
 have heq:=equal_sound l hlb
 have hck:=clockT_sound w e.name e.t.1 hw.env
 unfold ArgsP ResP plcT plcC exC at*
 obtain⟨a,r,rfl⟩:∃a r,l=a::r:=by
  match l,hll with
  | a::r,_=>exact⟨a,r,rfl⟩
 clear hll
 simp only[List.headD_cons]
 generalize clockT w.env e.name e.t.1=c at hck⊢
 by_cases hc0:c=0
 ·subst hc0
  rw[if_neg (by simp)]
  cases hq:eqAll (a::r)
  all_goals
   rw[hq]at heq
   simp only[Bool.true_eq_false,if_true,if_false]
   rcases h8 with h5|h5
   all_goals
    refine so Tryz.func39 ?_
    repeat' (first|refine wu ?_|exact wkc|intro hc|refine wk2 ?_ ?_|refine wv hargs ?_|refine wv heq ?_|refine wv hck ?_|fail)
    exact wkr
 ·rw[if_pos hc0]
  rcases h8 with h5|h5
  all_goals
   refine so Tryz.func39 ?_
   repeat' (first|refine wu ?_|exact wkc|intro hc|refine wk2 ?_ ?_|refine wv hargs ?_|refine wv hck ?_|fail)
   exact wkr
theorem res_10{w:Plc}{e:Ex}{l:List Int}(hargs:ArgsP w e l 0)(h10:e.kind.1=10)(hw:SmallW w)(hv:e.v.1=0\/e.v.1=1)(inner:Bool):ResP w e inner (callT w e l inner):=by
 have hcal:=call_sound w hw e l inner hv
 unfold ArgsP ResP plcT plcC exC at*
 refine so Tryz.func39 ?_
 repeat' (first|refine wu ?_|exact wkc|intro hc|refine wk2 ?_ ?_|refine wv hargs ?_|refine wv hcal ?_|fail)
 exact wkr
theorem results_sound'(w:Plc)(hw:SmallW w):∀(m:Nat) (e:Ex),wEx e≤m->wEx e≤1000000000->(∀x∈flat e,Arity x)->∀inner,Pure Tryz.prog 39 [.t (plcT w),.t (exT e),.b inner] (.tup [.t (intsT (resT w inner e).1),.i (resT w inner e).2]):=by
 intro m
 induction m with
 | zero=>intro e he;have:=wEx_pos e;omega
 | succ m ih0=>
   intro e he hb har inner
   have hlb:=wEx_args e
   have hA:Arity e:=har e (by rw[flat_eq];exact List.mem_cons_self)
   have hargs:=args_sound w e.args (by omega) (fun x hx=>ih0 x (by have:=wEx_arg hx;omega) (by have:=wEx_arg hx;omega) (fun y hy=>har y (by
    rw[flat_eq]
    refine List.mem_cons_of_mem _ ?_
    unfold flats
    exact List.mem_flatten.2 ⟨flat x,List.mem_map.2 ⟨x,hx,rfl⟩,hy⟩)) true)
   clear ih0 har
   have hhl:(heads (e.args.map (resT w true))).2=0->(heads (e.args.map (resT w true))).1.length=e.args.length:=fun h=>by rw[heads_len _ h];simp
   rw[resT_eq]
   generalize heads (e.args.map (resT w true))=h at*
   obtain⟨l,f⟩:=h
   simp only at*
   rw[exT_eq]
   by_cases hf:f=0
   ·subst hf
    rw[if_neg (by simp)]
    have hll:=hhl rfl
    unfold kindT
    have hk:=hA.kind
    have h5':=hA.k5
    have h7':=hA.more
    by_cases h1:e.kind.1=1
    ·rw[if_pos h1]
     exact res_1 hargs h1 inner
    rw[if_neg h1]
    by_cases h11:e.kind.1=11
    ·rw[if_pos h11]
     exact res_11 hargs h11 inner
    rw[if_neg h11]
    by_cases h2:e.kind.1=2
    ·rw[if_pos h2]
     exact res_2 hargs h2 hw inner
    rw[if_neg h2]
    by_cases h3:e.kind.1=3
    ·rw[if_pos h3]
     exact res_3 hargs h3 inner
    rw[if_neg h3]
    by_cases h4:e.kind.1=4
    ·rw[if_pos h4]
     exact res_4 hargs h4 (by rw[hll];exact hA.k4 h4) inner
    rw[if_neg h4]
    by_cases h5:e.kind.1=5\/e.kind.1=6\/e.kind.1=7
    ·rw[if_pos h5]
     exact res_5 hargs h5 (by rcases Decidable.em (e.kind.1=5)with h|h <;> omega) (by omega) inner
    rw[if_neg h5]
    by_cases h8:e.kind.1=8\/e.kind.1=9
    ·rw[if_pos h8]
     exact res_8 hargs h8 hw (by rw[hll];have:=h7' (by omega) (by omega);omega) (by omega) inner
    rw[if_neg h8]
    exact res_10 hargs (by omega) hw (hA.v (by omega)) inner
   ·rw[if_pos hf]
    exact res_bad hf hargs inner
theorem results_sound(w:Plc)(hw:SmallW w)(e:Ex)(hb:wEx e≤1000000000)(har:∀x∈flat e,Arity x)(inner:Bool):Pure Tryz.prog 39 [.t (plcT w),.t (exT e),.b inner] (.tup [.t (intsT (resT w inner e).1),.i (resT w inner e).2]):=results_sound' w hw (wEx e) e (Nat.le_refl _) hb har inner
theorem firstE_zero{α:Type}{f:α->Int}:∀ {l:List α},firstE f l=0->∀x∈l,f x=0
 | [],_,x,hx=>by cases hx
 | y::l,h,x,hx=>by
   unfold firstE at h
   by_cases hy:f y=0
   ·rcases List.mem_cons.1 hx with rfl|hx
    ·exact hy
    ·exact firstE_zero (l:=l) (by simpa [hy]using h) x hx
   ·simp[hy]at h
theorem arity_flat{es:List En}{e:Ex}(h:exprX es e=0):∀x∈flat e,Arity x:=by
 unfold exprX at h
 split at h
 ·rename_i hc
  unfold checkX at hc
  split at hc
  ·cases hc
  ·exact fun x hx=>arity_of (firstE_zero hc x hx)
 ·rename_i hc;exact absurd h hc
def ofT(p:Prog)(node:I64)(e:Ex):List Int×Int:=
 if node.1<0\/(p.nodes.length:Int)≤node.1 then([],2) else if exprX p.enums e≠0 then([],exprX p.enums e) else
 match p.nodes[node.1.toNat]? with
 | some n=>resT ⟨p,node,varsL n⟩ false e
 | none=>([],2)
structure SmallP (p:Prog):Prop where
 nodes:p.nodes.length≤100000000
 each:∀n∈p.nodes,SmallN n
 clocks:∀n∈p.nodes,∀d∈varsL n,d.clock.length≤100000000
theorem of_sound11(p:Prog)(hp:SmallP p)(node:I64)(e:Ex)(he:wEx e≤1000000000):Pure Tryz.prog 14 [.t (.ag (progC p)),.i node.1,.t (.ag (exC e))] (.tup [.t (intsT (ofT p node e).1),.i (ofT p node e).2]):=by
 have hml:(p.nodes.map nodT).length=p.nodes.length:=List.length_map _
 have hb:=hp.nodes
 have hcx:=exprX_sound p.enums e he
 unfold ofT
 by_cases h2:node.1<0\/(p.nodes.length:Int)≤node.1
 ·rw[if_pos h2]
  clear hcx
  unfold progC exC
  refine so Tryz.func14 ?_
  repeat' (first|refine wu ?_|exact wkc|intro hc|refine wk2 ?_ ?_|fail|fail)
  all_goals first
   | exact wkr
   | (exfalso;omega)
 rw[if_neg h2]
 rw[exT_eq]at hcx
 by_cases hx:exprX p.enums e≠0
 ·rw[if_pos hx]
  generalize exprX p.enums e=c at hx hcx⊢
  unfold progC exC at*
  refine so Tryz.func14 ?_
  repeat' (first|refine wu ?_|exact wkc|intro hc|refine wk2 ?_ ?_|refine wv hcx ?_|fail)
  all_goals first
   | exact wkr
   | (exfalso;omega)
 rw[if_neg hx]
 have hx0:exprX p.enums e=0:=Classical.byContradiction hx
 rw[hx0]at hcx
 obtain⟨k,hk,hkn⟩:∃k:Nat,k<p.nodes.length/\node.1=(k:Int):=⟨node.1.toNat,by omega,by omega⟩
 have hnt:node.1.toNat=k:=by omega
 rw[hnt,List.getElem?_eq_getElem hk]
 have hat:(p.nodes.map nodT)[node.1.toNat]?=some (.ag (nodC p.nodes[k])):=by rw[hnt];exact at_nod hk
 have hN:=hp.each p.nodes[k] (List.getElem_mem hk)
 have hv:=vars_sound p.nodes[k] hN (hp.clocks _ (List.getElem_mem hk))
 have hvl:(varsL p.nodes[k]).length≤1000000000:=by have:=hN.ins;have:=hN.outs;have:=hN.locals;simp[varsL];omega
 have hr:=results_sound ⟨p,node,varsL p.nodes[k]⟩ ⟨hb,hp.each,hvl⟩ e he (arity_flat hx0) false
 rw[exT_eq]at hr
 dsimp only at hr⊢
 generalize resT ⟨p,node,varsL p.nodes[k]⟩ false e=r at hr⊢
 have h2a:0≤node.1:=by omega
 have h2b:node.1<p.nodes.length:=by omega
 clear hkn hnt h2 hx0 hx hN hp
 generalize varsL p.nodes[k]=L at hv hr hvl
 generalize p.nodes[k]=n at hv hat
 obtain⟨node,hn1,hn2⟩:=node
 unfold progC exC plcT plcC nodC at*
 dsimp only[T.n]at*
 refine so Tryz.func14 ?_
 repeat' (first|refine wkt ?_|refine wk2 ?_ ?_|exact wkc|intro hc|refine wv hcx ?_|(apply Go.TL.TO.want;exact rfl)|fail)
 refine TR.regionM (envF:=?envF) (HF:=[]) [(.t (.ag [.sl 2 (p.enums.map enT),nodesT p.nodes]),false),(.i node,false),(.cp [.sl 2 (p.enums.map enT),nodesT p.nodes] 1,false),(.t (nodesT p.nodes),false),(.i node,false),(.cp [.s n.name,declsT n.ins,declsT n.outs,declsT n.locals,.sl 7 (n.eqs.map equT),.sl 1 (n.autos.map autoT),.sl 6 (n.assume.map exT),.sl 6 (n.ensure.map exT)] 0,false),(.t (.ag [.s n.name,declsT n.ins,declsT n.outs,declsT n.locals,.sl 7 (n.eqs.map equT),.sl 1 (n.autos.map autoT),.sl 6 (n.assume.map exT),.sl 6 (n.ensure.map exT)]),false),(.t (declsT L),true),(.t (.ag [.sl 2 (p.enums.map enT),nodesT p.nodes,T.i node,declsT L]),true),(.t (.ag [T.v (.int .i64 e.kind.val),T.v (.int .i64 e.op.val),T.v (.int .i64 e.t.val),T.v (.int .i64 e.v.val),.s e.name,.sl 6 (e.args.map exT)]),false),(.tup [.t (intsT r.1),.i r.2],true),(.t (intsT r.1),false),(.i r.2,false),(.t (intsT r.1),false),(.i r.2,false)] [[],[],[],[]] hmix ?hB ?h0 ?hp ?hF ?hE ?hK
 case hB=>(dsimp only[List.map];decide +kernel)
 case h0=>exact rfl
 case hF=>exact rfl
 case hE=>exact rfl
 case hp=>repeat' (first|refine wu ?_|refine wk2 ?_ ?_|exact wkc|intro hc|refine wv hv ?_|refine wv hr ?_|exact trivial|exact And.intro rfl rfl|refine And.intro (fun H env=>?_) ?_|refine And.intro (fun env=>?_) ?_|fail)
 case hK=>
  repeat' (first|refine wu ?_|refine wk2 ?_ ?_|exact wkc|intro hc|refine wv hv ?_|refine wv hr ?_|exact trivial|exact And.intro rfl rfl|refine And.intro (fun H env=>?_) ?_|refine And.intro (fun env=>?_) ?_|fail)
  exact wkr
def orE(a b:Int):Int:=if a=0 then b else a
def identE(s:Str):Int:=if ident s=true then 0 else 6
def onE(es:List En)(o:OnC):Int:=orE (identE o.name) (if o.t.1≠2/\hasT es o.t.1 o.tag.1=true then 0 else 5)
def declE(es:List En)(port:Bool)(d:Decl):Int:=
 orE (identE d.name) (orE (if 0<sizeOfT es d.ty.1 then 0 else 10) (orE (if port=true/\d.clock.length≠0 then 11 else 0) (orE (if d.clock.length≤4 then 0 else 3) (firstE (onE es) d.clock))))
def equE(es:List En)(q:Equ):Int:=
 orE (if q.left.length=0 then 8 else 0) (orE (if q.left.length≤64 then 0 else 3) (orE (firstE identE q.left) (orE (exprX es q.right) (if q.left.length=1\/q.right.kind.1=10 then 0 else 5))))
def slessI(k:Int):Bool:=decide (k≠5/\k≠6/\k≠7/\k≠10/\k≠11)
def sless(e:Ex):Bool:=(flat e).all fun x=>slessI x.kind.1
def tranE(es:List En)(states:Int)(strong:Bool)(t:Tran):Int:=
 orE (if 0≤t.to.1/\t.to.1<states then 0 else 14) (orE (exprX es t.cond) (if strong=false\/sless t.cond=true then 0 else 5))
def stE(es:List En)(auto:Auto->Int)(n:Int)(s:Sta):Int:=
 orE (identE s.name) (orE (if s.locals.length≤256/\s.eqs.length≤256/\s.autos.length≤8/\s.unl.length≤4/\s.unt.length≤4 then 0 else 3)
  (orE (firstE (declE es false) s.locals) (orE (firstE (equE es) s.eqs) (orE (firstE auto s.autos) (orE (firstE (tranE es n true) s.unl) (firstE (tranE es n false) s.unt))))))
def autoE(es:List En):Nat->Auto->Int
 | 0,_=>3
 | k+1,a=>orE (if a.states.length=0 then 8 else 0) (orE (if a.states.length≤8 then 0 else 3) (firstE (stE es (autoE es k) a.states.length) a.states))
def enumE(u:En):Int:=orE (identE u.name) (orE (if u.tags.length=0 then 8 else 0) (orE (if u.tags.length≤16 then 0 else 3) (firstE identE u.tags)))
def headE(es:List En)(n:Nod):Int:=
 orE (identE n.name) (orE (if n.ins.length≤64/\n.outs.length≤64/\n.locals.length≤256/\n.eqs.length≤256/\n.autos.length≤8/\n.assume.length≤8/\n.ensure.length≤8 then 0 else 3)
  (orE (if n.outs.length=0 then 8 else 0) (orE (firstE (declE es true) n.ins) (orE (firstE (declE es true) n.outs) (firstE (declE es false) n.locals)))))
def tailE(es:List En)(n:Nod):Int:=orE (firstE (autoE es 3) n.autos) (orE (firstE (exprX es) n.assume) (firstE (exprX es) n.ensure))
def firstI{α:Type}(g:α->Int):List α->Int×Int
 | []=>(0,0)
 | x::l=>if g x=0 then(if(firstI g l).2=0 then(0,0) else((firstI g l).1+1,(firstI g l).2)) else(0,g x)
theorem firstI_snd{α:Type}(g:α->Int):∀(l:List α),(firstI g l).2=firstE g l
 | []=>rfl
 | x::l=>by
   simp only[firstI,firstE]
   rw[<-firstI_snd g l]
   split
   ·split <;> simp_all
   ·rfl
theorem firstI_append{α:Type}(g:α->Int):∀(a b:List α),firstI g (a++b)=if firstE g a=0 then(if firstE g b=0 then(0,0) else((firstI g b).1+a.length,firstE g b)) else firstI g a
 | [],b=>by
   have:=firstI_snd g b
   simp only[List.nil_append,firstE,if_true,List.length_nil]
   split
   ·rename_i h
    cases b with
    | nil=>rfl
    | cons x l=>
      simp only[firstI,firstE]at*
      grind
   ·rw[<-this];simp
 | x::a,b=>by
   have h1:=firstI_snd g (a++b)
   have h2:=firstI_snd g a
   have h3:=firstE_append g a b
   simp only[List.cons_append,firstI,firstE,firstI_append g a b,List.length_cons]at*
   grind
def nodeX(es:List En)(n:Nod):Int×Int:=
 if headE es n≠0 then(-1,headE es n) else if firstE (equE es) n.eqs≠0 then firstI (equE es) n.eqs else(-1,tailE es n)
def limE(p:Prog):Int:=if p.enums.length≤24/\p.nodes.length≤96 then 0 else 3
def shapeX(p:Prog):(Int×Int)×Int:=
 if limE p≠0 then((-1,-1),limE p) else if firstE enumE p.enums≠0 then((-1,-1),firstE enumE p.enums) else
 if firstE (fun n=>(nodeX p.enums n).2) p.nodes=0 then((0,0),0) else
  let i:=(firstI (fun n=>(nodeX p.enums n).2) p.nodes).1
  ((i,((p.nodes[i.toNat]?).map fun n=>(nodeX p.enums n).1).getD 0),firstE (fun n=>(nodeX p.enums n).2) p.nodes)
def strW:Value->Nat
 | .string s=>s.size
 | _=>0
def _root_.Go.TL.T.w:T->Nat
 | .v x=>1+strW x
 | .sl _ es=>1+(es.attach.map fun x=>x.1.w).sum
 | .ag cs=>1+(cs.attach.map fun x=>x.1.w).sum
decreasing_by
 all_goals
  have:=List.sizeOf_lt_of_mem x.2
  simp;omega
theorem w_sl(sz:Nat)(es:List T):(T.sl sz es).w=1+(es.map T.w).sum:=by rw[T.w];simp
theorem w_ag(cs:List T):(T.ag cs).w=1+(cs.map T.w).sum:=by rw[T.w];simp
theorem w_s(s:Str):(T.s s).w=1+s.length:=by rw[T.w];rfl
theorem w_pos(t:T):1≤t.w:=by
 cases t with
 | v=>rw[T.w];omega
 | sl=>rw[w_sl];omega
 | ag=>rw[w_ag];omega
theorem w_len(sz:Nat)(es:List T):es.length<(T.sl sz es).w:=by
 have:=sum_len T.w w_pos es
 rw[w_sl];omega
theorem w_in{sz:Nat}{es:List T}{t:T}(h:t∈es):t.w<(T.sl sz es).w:=by
 have:=sum_mem T.w h
 rw[w_sl];omega
theorem w_lenM{α:Type}(f:α->T)(sz:Nat)(l:List α):l.length<(T.sl sz (l.map f)).w:=by
 have:=w_len sz (l.map f);simpa using this
theorem w_inM{α:Type}{f:α->T}{sz:Nat}{l:List α}{x:α}(h:x∈l):(f x).w<(T.sl sz (l.map f)).w:=w_in (List.mem_map_of_mem h)
theorem wEx_w:∀(m:Nat) (e:Ex),wEx e≤m->wEx e≤(exT e).w
 | 0,e,h=>by have:=wEx_pos e;omega
 | m+1,e,h=>by
   have ih:∀x∈e.args,wEx x≤(exT x).w:=fun x hx=>wEx_w m x (by have:=wEx_arg hx;omega)
   have hs:(e.args.map wEx).sum≤((e.args.map exT).map T.w).sum:=by
    generalize e.args=l at ih
    clear h
    induction l with
    | nil=>simp
    | cons a l ih2=>
      have h1:=ih a (by simp)
      have h2:=ih2 (fun x hx=>ih x (by simp[hx]))
      simp only[List.map_cons,List.sum_cons];omega
   rw[wEx_eq,exT_eq,w_ag]
   simp only[exC,List.map_cons,List.sum_cons,w_sl]
   omega
theorem wEx_le(e:Ex):wEx e≤(exT e).w:=wEx_w _ e (Nat.le_refl _)
end Go.Proofs.YtddaclniamlmbaaGreatDoor
