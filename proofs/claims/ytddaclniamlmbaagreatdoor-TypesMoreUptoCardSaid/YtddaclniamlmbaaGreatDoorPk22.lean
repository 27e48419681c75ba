import Derived.DeepKeys5
import Derived.Lib.ItoaNum
import Derived.Test.YtddaclniamlmbaaGreatDoorPk19
import Derived.Test.YtddaclniamlmbaaGreatDoorPk21
set_option linter.unusedSimpArgs false
set_option linter.unusedVariables false
namespace Go.Proofs.YtddaclniamlmbaaGreatDoor
open Go Go.TL
attribute [local irreducible] TR TO Then InBlock RetK Sound LoopK Kf GG ThenL
theorem kStr:Maps.Keyed Tryz.prog 9:=Maps.string_keyed Tryz.underlying9
set_option maxRecDepth 100000 in
theorem kKey:Maps.Keyed Tryz.prog 121:=Maps.Keyed.of_law (deep_law_laid (m:=3) (by kernel_rfl) (by decide) (Nat.le_of_ble_eq_true (by kernel_rfl)) (by kernel_rfl) (by kernel_rfl))
theorem keyS{s:Str}(h:s.length≤1000000000):∃l,keyOf Tryz.prog 9 (str s)=some l:=by
 refine⟨.string s,?_⟩
 have:(⟨s.toArray⟩:ByteArray).size≤maxLen:=by
  show s.toArray.size≤maxLen
  simp[maxLen];omega
 simp[keyOf,Tryz.underlying9,mapKey,this]
abbrev keyV (k:Int)(s:Str):Value:=.agg #[.int .i64 k,str s]
theorem keyTy:Tryz.prog.keyType 121=true:=by kernel_rfl
theorem cells2:Tryz.prog.cellsOf 121=2:=by kernel_rfl
theorem cells3:Tryz.prog.cellsOf 3=1:=by kernel_rfl
theorem cells4:Tryz.prog.cellsOf 9=1:=by kernel_rfl
theorem typesN:∃N,Tryz.prog.types.size=N+1:=⟨Tryz.prog.types.size-1,by kernel_rfl⟩
theorem keyLitsK(N:Nat){k:Int}{s:Str}(hw:(Lit.int .i64 k).wf=true)(hs:(⟨s.toArray⟩:ByteArray).size≤maxLen):
  (Tryz.prog.keyLits (N+1+1) 121 [.int .i64 k,str s])=some [.int .i64 k,.string s]:=by
 have e1:∀c,Tryz.prog.keyLits (N+1) 3 [c]=(match c with| .int q' n=>if q'= .i64/\(Lit.int .i64 n).wf=true then some [.int .i64 n] else none|_=>none):=fun c=>by
  unfold Program.keyLits
  simp only[Tryz.underlying3]
  cases c <;> rfl
 have e2:Tryz.prog.keyLits (N+1) 9 [str s]=some [.string s]:=by
  unfold Program.keyLits
  simp only[Tryz.underlying9]
  rw[if_pos hs]
 unfold Program.keyLits
 simp only[Tryz.underlying121,cells2]
 simp only[List.length_cons,List.length_nil,List.mapM_cons,List.mapM_nil,cells3,cells4,List.drop_zero,List.take,List.drop,e1,e2,hw]
 simp
theorem keyK{k:Int}{s:Str}(hk:0≤k/\k≤2)(h:s.length≤1000000000):∃l,keyOf Tryz.prog 121 (keyV k s)=some l:=by
 have hs:(⟨s.toArray⟩:ByteArray).size≤maxLen:=by
  show s.toArray.size≤maxLen
  simp[maxLen];omega
 have hw:(Lit.int .i64 k).wf=true:=by
  simp only[Lit.wf,Bool.and_eq_true,decide_eq_true_eq]
  exact⟨by show(-9223372036854775808:Int)≤k;omega,by show k≤(9223372036854775807:Int);omega⟩
 have h5:(Value.agg #[.int .i64 k,str s]).formed Tryz.prog 121=true:=by
  simp only[Value.formed,Tryz.underlying121,cells2];rfl
 obtain⟨N,hN⟩:=typesN
 refine⟨.string (keyBytes [.int .i64 k,.string s]),?_⟩
 rw[keyOf,Tryz.underlying121]
 simp only[keyTy,h5,hN,Value.cells,Bool.and_self,if_true,keyLitsK N hw hs,Option.map_some]
def ins(l:List Str)(s:Str):List Str:=if s∈l then l else l++[s]
abbrev setB (l:List Str):Blk:=.map 9 4 (l.map fun s=>(str s,.v (.bool true)))
abbrev seenB (l:List (Int×Str×Int)):Blk:=.map 121 3 (l.map fun e=>(keyV e.1 e.2.1,.v (.int .i64 e.2.2)))
structure SetOk (l:List Str):Prop where
 nodup:l.Nodup
 short:∀s∈l,s.length≤1000000000
structure SeenOk (l:List (Int×Str×Int)):Prop where
 nodup:(l.map fun e=>(e.1,e.2.1)).Nodup
 short:∀e∈l,(0≤e.1/\e.1≤2)/\e.2.1.length≤1000000000
def seenGet(l:List (Int×Str×Int))(k:Int)(s:Str):Option Int:=(l.find? fun e=>decide (e.1=k/\e.2.1=s)).map fun e=>e.2.2
theorem str_inj{a b:Str}(h:str a=str b):a=b:=by
 simp only[str,Value.string.injEq,ByteArray.mk.injEq]at h
 simpa using h
theorem keyV_inj{k j:Int}{a b:Str}(h:keyV k a=keyV j b):k=j/\a=b:=by
 simp only[keyV,Value.agg.injEq,Array.mk.injEq,List.cons.injEq,Value.int.injEq,true_and,and_true]at h
 exact⟨h.1,str_inj h.2⟩
theorem SetOk.nil:SetOk []:=⟨List.nodup_nil,by simp⟩
theorem SetOk.ins{l:List Str}{s:Str}(h:SetOk l)(hs:s.length≤1000000000):SetOk (ins l s):=by
 unfold Go.Proofs.YtddaclniamlmbaaGreatDoor.ins
 split
 ·exact h
 ·rename_i hn
  refine⟨List.nodup_append.2 ⟨h.nodup,by simp,fun a ha b hb e=>?_⟩,fun x hx=>?_⟩
  ·simp at hb;subst hb;subst e;exact hn ha
  ·simp at hx;rcases hx with hx|rfl
   ·exact h.short x hx
   ·exact hs
theorem SetOk.keys{l:List Str}(h:SetOk l):KeysOk Tryz.prog 9 (l.map fun s=>(str s,.v (.bool true))):=by
 intro j e he
 rw[List.getElem?_map]at he
 cases hq:l[j]? with
 | none=>rw[hq]at he;cases he
 | some s=>rw[hq]at he;cases he;exact keyS (h.short s (List.mem_of_getElem? hq))
theorem SeenOk.nil:SeenOk []:=⟨List.nodup_nil,by simp⟩
theorem SeenOk.keys{l:List (Int×Str×Int)}(h:SeenOk l):KeysOk Tryz.prog 121 (l.map fun e=>(keyV e.1 e.2.1,.v (.int .i64 e.2.2))):=by
 intro j e he
 rw[List.getElem?_map]at he
 cases hq:l[j]? with
 | none=>rw[hq]at he;cases he
 | some s=>rw[hq]at he;cases he;have:=h.short s (List.mem_of_getElem? hq);exact keyK this.1 this.2
theorem SeenOk.add{l:List (Int×Str×Int)}{k v:Int}{s:Str}(h:SeenOk l)(hk:0≤k/\k≤2)(hs:s.length≤1000000000)(hn:seenGet l k s=none):SeenOk (l++[(k,s,v)]):=by
 refine⟨?_,fun e he=>?_⟩
 ·rw[List.map_append]
  refine List.nodup_append.2 ⟨h.nodup,by simp,fun a ha b hb e=>?_⟩
  simp at hb;subst hb;subst e
  obtain⟨e,he,heq⟩:=List.mem_map.1 ha
  simp only[seenGet,Option.map_eq_none_iff,List.find?_eq_none,decide_eq_true_eq]at hn
  simp only[Prod.mk.injEq]at heq
  exact hn e he heq
 ·simp at he;rcases he with he|rfl
  ·exact h.short e he
  ·exact⟨hk,hs⟩
theorem set_get{l:List Str}(h:SetOk l)(s:Str):MapGet (l.map fun s=>(str s,T.v (.bool true))) (str s) (if s∈l then some (.v (.bool true)) else none):=by
 by_cases hm:s∈l
 ·rw[if_pos hm]
  obtain⟨j,hj⟩:=List.getElem?_of_mem hm
  refine⟨j,by simp[hj],fun j' t' h'=>?_⟩
  rw[List.getElem?_map]at h'
  cases hq:l[j']? with
  | none=>rw[hq]at h';cases h'
  | some x=>
    rw[hq]at h'
    simp only[Option.map_some,Option.some.injEq,Prod.mk.injEq]at h'
    have:=str_inj h'.1
    subst this
    exact(List.getElem?_inj (List.getElem?_eq_some_iff.1 hq).1 h.nodup).1 (hq.trans hj.symm)
 ·rw[if_neg hm]
  intro j e he e2
  rw[List.getElem?_map]at he
  cases hq:l[j]? with
  | none=>rw[hq]at he;cases he
  | some x=>
    rw[hq]at he;cases he
    have:=str_inj e2
    subst this
    exact hm (List.mem_of_getElem? hq)
theorem set_put{l:List Str}(h:SetOk l)(s:Str):MapPut (l.map fun s=>(str s,T.v (.bool true))) (str s) (.v (.bool true)) ((ins l s).map fun s=>(str s,T.v (.bool true))):=by
 have hg:=set_get h s
 unfold ins
 by_cases hm:s∈l
 ·rw[if_pos hm]at hg⊢
  obtain⟨j,hj,hu⟩:=hg
  refine .inl ⟨j,_,hj,hu,?_⟩
  have hlt:=(List.getElem?_eq_some_iff.1 hj)
  conv=>rhs;rw[<-hlt.2]
  rw[List.set_getElem_self]
 ·rw[if_neg hm]at hg⊢
  exact .inr ⟨hg,by simp⟩
theorem seen_get{l:List (Int×Str×Int)}(h:SeenOk l)(k:Int)(s:Str):MapGet (l.map fun e=>(keyV e.1 e.2.1,T.v (.int .i64 e.2.2))) (keyV k s) ((seenGet l k s).map fun v=>.v (.int .i64 v)):=by
 unfold seenGet
 cases hf:l.find? (fun e=>decide (e.1=k/\e.2.1=s)) with
 | none=>
   rw[List.find?_eq_none]at hf
   intro j e he e2
   rw[List.getElem?_map]at he
   cases hq:l[j]? with
   | none=>rw[hq]at he;cases he
   | some x=>
     rw[hq]at he;cases he
     exact hf x (List.mem_of_getElem? hq) (by simpa using keyV_inj e2)
 | some e=>
   have hm:=List.mem_of_find?_eq_some hf
   have hp:=List.find?_some hf
   simp only[decide_eq_true_eq]at hp
   obtain⟨j,hj⟩:=List.getElem?_of_mem hm
   refine⟨j,by simp[hj,hp.1,hp.2],fun j' t' h'=>?_⟩
   rw[List.getElem?_map]at h'
   cases hq:l[j']? with
   | none=>rw[hq]at h';cases h'
   | some x=>
     rw[hq]at h'
     simp only[Option.map_some,Option.some.injEq,Prod.mk.injEq]at h'
     have h1:=keyV_inj h'.1
     have e1:(l.map fun e=>(e.1,e.2.1))[j']?=some (k,s):=by simp[hq,h1.1,h1.2]
     have e2:(l.map fun e=>(e.1,e.2.1))[j]?=some (k,s):=by simp[hj,hp.1,hp.2]
     exact(List.getElem?_inj (List.getElem?_eq_some_iff.1 e1).1 h.nodup).1 (e1.trans e2.symm)
theorem key_rel{k:Int}{s:Str}{m:M}{v:Value}(h:SRel m (.t (.ag [.i k,.s s])) v):v=keyV k s:=by
 cases h with
 | t _ _ h=>
   cases h with
   | ag _ arr hs h1 h2=>
     obtain⟨l⟩:=arr
     match l,hs with
     | [a,b],_=>
       have ha:=h2 0 _ a rfl rfl
       have hb:=h2 1 _ b rfl rfl
       cases ha;cases hb
       rfl
section
variable {n:Nat}{env:Env}{K:TK}{all:Array Oper}{rest:List Oper}{d id:Nat}{ty:TypeId}{pos:String}{aft:Array Edge}{H:Heap}{x y w:Operand}{q:Bool}
theorem TO.setGet{l:List Str}{s:Str}(hd:Nat.ble (d+1) n=true)(hx:env.val x=some (.mp id))(hH:H[id]?=some (setB l))(hy:env.val y=some (.s s))(hl:SetOk l)(hs:s.length≤1000000000)
  (k1:s∈l->TO q Tryz.prog n all rest ((d,.b true)::env) H K)(k2:s ∉ l->TO q Tryz.prog n all rest ((d,.b false)::env) H K):
  TO q Tryz.prog n all (⟨some d,.lookup 64 x y false,ty,pos,aft,none⟩::rest) env H K:=by
 refine TO.lookup tabOk hd rfl rfl rfl rfl rfl kStr hx hH hl.keys hy (kx:=str s) (fun m v h=>h.v_eq) (keyS hs) (set_get hl s) ?_
 by_cases hm:s∈l
 ·rw[if_pos hm];exact k1 hm
 ·rw[if_neg hm];exact k2 hm
theorem TO.nilGet{s:Str}(hd:Nat.ble (d+1) n=true)(hx:env.val x=some (.t (.v (.map none))))(hy:env.val y=some (.s s))(hs:s.length≤1000000000)(k:TO q Tryz.prog n all rest ((d,.b false)::env) H K):
  TO q Tryz.prog n all (⟨some d,.lookup 64 x y false,ty,pos,aft,none⟩::rest) env H K:=
 TO.lookup_nil tabOk hd rfl rfl rfl rfl rfl kStr hx hy (kx:=str s) (fun m v h=>h.v_eq) (keyS hs) k
theorem TO.setPut{l:List Str}{s:Str}{H':Heap}(hx:env.val x=some (.mp id))(hH:H[id]?=some (setB l))(hy:env.val y=some (.s s))(hw:env.val w=some (.b true))(hl:SetOk l)(hs:s.length≤1000000000)
  (hH':setS H id (setB (ins l s))=some H')(k:TO false Tryz.prog n all rest env H' K):
  TO false Tryz.prog n all (⟨none,.mapUpdate 64 x y w,ty,pos,aft,none⟩::rest) env H K:=
 TO.mapUpdate tabOk rfl rfl kStr hx hH hl.keys hy (kx:=str s) (fun m v h=>h.v_eq) (keyS hs) hw rfl (set_put hl s) (setS_eq hH').symm k
theorem TO.seenLook{l:List (Int×Str×Int)}{s:Str}{k:Int}(hd:Nat.ble (d+1) n=true)(hx:env.val x=some (.mp id))(hH:H[id]?=some (seenB l))(hy:env.val y=some (.t (.ag [.i k,.s s])))(hl:SeenOk l)(hk:0≤k/\k≤2)(hs:s.length≤1000000000)
  (k1:∀v,seenGet l k s=some v->TO q Tryz.prog n all rest ((d,.tup [.i v,.b true])::env) H K)(k2:seenGet l k s=none->TO q Tryz.prog n all rest ((d,.tup [.i 0,.b false])::env) H K):
  TO q Tryz.prog n all (⟨some d,.lookup 116 x y true,ty,pos,aft,none⟩::rest) env H K:=by
 refine TO.lookup tabOk hd rfl rfl rfl rfl rfl kKey hx hH hl.keys hy (kx:=keyV k s) (fun m v h=>key_rel h) (keyK hk hs) (seen_get hl k s) ?_
 cases hg:seenGet l k s with
 | none=>exact k2 hg
 | some v=>exact k1 v hg
theorem TO.seenPut{l:List (Int×Str×Int)}{s:Str}{k v:Int}{H':Heap}(hx:env.val x=some (.mp id))(hH:H[id]?=some (seenB l))(hy:env.val y=some (.t (.ag [.i k,.s s])))(hw:env.val w=some (.i v))(hl:SeenOk l)(hn:seenGet l k s=none)(hk:0≤k/\k≤2)(hs:s.length≤1000000000)
  (hH':setS H id (seenB (l++[(k,s,v)]))=some H')(kk:TO false Tryz.prog n all rest env H' K):
  TO false Tryz.prog n all (⟨none,.mapUpdate 116 x y w,ty,pos,aft,none⟩::rest) env H K:=by
 have hg:=seen_get hl k s
 rw[hn]at hg
 exact TO.mapUpdate tabOk rfl rfl kKey hx hH hl.keys hy (kx:=keyV k s) (fun m v h=>key_rel h) (keyK hk hs) hw rfl (.inr ⟨hg,by rw[List.map_append];rfl⟩) (setS_eq hH').symm kk
end
theorem lookT_app(d:Decl)(nm:Str)(h:d.name≠nm):∀l:List Decl,lookT (l++[d]) nm=lookT l nm
 | []=>by simp[lookT,h]
 | x::l=>by
   rw[List.cons_append,lookT,lookT,lookT_app d nm h l]
theorem idxI_cons{α:Type}(f:α->Bool)(x:α)(l:List α):idxI f (x::l)=if f x then 0 else if idxI f l<0 then -1 else idxI f l+1:=rfl
theorem idxI_lt{α:Type}(f:α->Bool):∀l:List α,-1≤idxI f l/\idxI f l<l.length
 | []=>by simp[idxI]
 | x::l=>by
   have ih:=idxI_lt f l
   unfold idxI
   simp only[List.length_cons]
   split
   ·omega
   ·split <;> omega
theorem idxI_app{α:Type}(f:α->Bool)(b:List α):∀a:List α,idxI f (a++b)=if 0≤idxI f a then idxI f a else if idxI f b<0 then -1 else a.length+idxI f b
 | []=>by
   have:=idxI_lt f b
   simp only[List.nil_append,idxI,List.length_nil]
   split
   ·omega
   ·split <;> omega
 | x::a=>by
   have ih:=idxI_app f b a
   have h1:=idxI_lt f a
   have h2:=idxI_lt f b
   rw[List.cons_append,idxI_cons,idxI_cons,ih]
   simp only[List.length_cons]
   repeat' split
   all_goals omega
theorem callT_pre{p q:Prog}{pre a b:List Nod}{node:I64}(env env':List Decl)(hp:p.nodes=pre++a)(hq:q.nodes=pre++b)(hn:node.1=pre.length)(e:Ex)(l:List Int)(inner:Bool):callT ⟨q,node,env'⟩ e l inner=callT ⟨p,node,env⟩ e l inner:=by
 have key:∀(r:Prog) (c:List Nod) (v:List Decl),r.nodes=pre++c->callT ⟨r,node,v⟩ e l inner=if 0≤idxI (fun n=>n.name == e.name) pre then
   (match pre[(idxI (fun n=>n.name == e.name) pre).toNat]? with
   | none=>(([]:List Int),(6:Int))
   | some n=>
     if(l.length:Int)≠n.ins.length+e.v.1\/(inner=true/\n.outs.length≠1) then([],9)
     else if insOk n.ins l=false then([],10)
     else if e.v.1=1/\l.getD n.ins.length 0≠1 then([],10)
     else(n.outs.map (·.ty.1),0)) else([],6):=by
  intro r c v hr
  have h1:=idxI_lt (fun n:Nod=>n.name == e.name) pre
  have h2:=idxI_lt (fun n:Nod=>n.name == e.name) c
  have h3:=idxI_app (fun n:Nod=>n.name == e.name) c pre
  unfold callT findN
  simp only[hr,h3,hn]
  by_cases h0:0≤idxI (fun n:Nod=>n.name == e.name) pre
  ·rw[if_pos h0,if_pos h0,if_neg (by simp only[decide_eq_false_iff_not,not_or];omega)]
   have hm:max (idxI (fun n:Nod=>n.name == e.name) pre) 0=idxI (fun n:Nod=>n.name == e.name) pre:=by omega
   rw[hm,List.getElem?_append_left (by omega)]
   cases pre[(idxI (fun n:Nod=>n.name == e.name) pre).toNat]? <;> rfl
  ·rw[if_neg h0,if_neg h0]
   refine if_pos ?_
   split
   ·exact .inl (by decide)
   ·exact .inr (by omega)
 rw[key q b env' hq,key p a env hp]
theorem resT_more{p q:Prog}{pre a b:List Nod}{node:I64}(env:List Decl)(d:Decl)(hp:p.nodes=pre++a)(hq:q.nodes=pre++b)(hn:node.1=pre.length):
  ∀(m:Nat) (e:Ex) (inner:Bool),wEx e≤m->(∀x∈flat e,x.kind.1=2\/x.kind.1=8\/x.kind.1=9->d.name≠x.name)->resT ⟨q,node,env++[d]⟩ inner e=resT ⟨p,node,env⟩ inner e
 | 0,e,_,h,_=>by have:=wEx_pos e;omega
 | m+1,e,inner,h,hx=>by
   have ih:e.args.map (resT ⟨q,node,env++[d]⟩ true)=e.args.map (resT ⟨p,node,env⟩ true):=List.map_congr_left fun x hm=>resT_more env d hp hq hn m x true (by have:=wEx_arg hm;omega) fun y hy=>hx y (by
    rw[flat_eq]
    exact List.mem_cons_of_mem _ (List.mem_flatten.2 ⟨flat x,List.mem_map.2 ⟨x,hm,rfl⟩,hy⟩))
   have h0:=hx e (by rw[flat_eq];exact List.mem_cons_self ..)
   rw[resT_eq,resT_eq,ih]
   split
   ·rfl
   ·generalize (heads (e.args.map (resT ⟨p,node,env⟩ true))).1=l
    unfold kindT
    split
    ·rfl
    split
    ·rfl
    split
    ·rename_i h2
     simp only[lookT_app d e.name (h0 (.inl h2))]
    split
    ·rfl
    split
    ·rfl
    split
    ·rfl
    split
    ·rename_i h8
     simp only[clockT,lookT_app d e.name (h0 (.inr h8))]
    ·exact callT_pre env (env++[d]) hp hq hn e l inner
def moreN(n:Nod)(e:Ex)(d:Decl):Nod:={ n with assume:=n.assume++[e],locals:=n.locals++[d] }
theorem ofT_more{p q:Prog}{pre:List Nod}{n m:Nod}{node:I64}{e e':Ex}{d:Decl}(hes:q.enums=p.enums)(hp:p.nodes=pre++[n])(hq:q.nodes=pre++[moreN n e' d,m])(hn:node.1=pre.length)
  (hx:∀x∈flat e,x.kind.1=2\/x.kind.1=8\/x.kind.1=9->d.name≠x.name):ofT q node e=ofT p node e:=by
 have l1:p.nodes.length=pre.length+1:=by rw[hp];simp
 have l2:q.nodes.length=pre.length+2:=by rw[hq];simp
 have g1:p.nodes[node.1.toNat]?=some n:=by rw[hp,List.getElem?_append_right (by omega),show node.1.toNat-pre.length=0 by omega];rfl
 have g2:q.nodes[node.1.toNat]?=some (moreN n e' d):=by rw[hq,List.getElem?_append_right (by omega),show node.1.toNat-pre.length=0 by omega];rfl
 have hv:varsL (moreN n e' d)=varsL n++[d]:=by simp[varsL,moreN]
 have e1:ofT q node e=if exprX q.enums e≠0 then([],exprX q.enums e) else resT ⟨q,node,varsL (moreN n e' d)⟩ false e:=by
  unfold ofT
  rw[if_neg (by omega),g2]
 have e2:ofT p node e=if exprX p.enums e≠0 then([],exprX p.enums e) else resT ⟨p,node,varsL n⟩ false e:=by
  unfold ofT
  rw[if_neg (by omega),g1]
 rw[e1,e2,hes,hv,resT_more (varsL n) d hp hq hn _ e false (Nat.le_refl _) hx]
def gatherL(a:List Str)(ds:List Decl):List Str:=ds.foldl (fun a d=>d.clock.foldl (fun a o=>ins a o.name) (ins a d.name)) a
def lhsL(a:List Str)(qs:List Equ):List Str:=qs.foldl (fun a q=>q.left.foldl ins a) a
def statesL:Nat->List Str->List Equ->List Auto->List Str
 | 0,a,_,_=>a
 | m+1,a,qs,l=>l.foldl (fun a x=>x.states.foldl (fun a s=>statesL m (gatherL (ins a s.name) s.locals) s.eqs s.autos) a) (lhsL a qs)
def keepK(k:Int):Bool:=decide (k≠1/\k≠3/\k≠4/\k≠5/\k≠6/\k≠7/\k≠11)
def oneL(a:List Str)(x:Ex):List Str:=if keepK x.kind.1=true then ins a x.name else a
def exprL(a:List Str)(e:Ex):List Str:=(flat e).foldl oneL a
def exprsL:Nat->List Str->List Equ->List Auto->List Str
 | 0,a,_,_=>a
 | m+1,a,qs,l=>l.foldl (fun a x=>x.states.foldl (fun a s=>(s.unl++s.unt).foldl (fun a t=>exprL a t.cond) (exprsL m a s.eqs s.autos)) a) (qs.foldl (fun a q=>exprL a q.right) a)
def everyL(m:Nat)(a:List Str)(n:Nod):List Str:=(n.assume++n.ensure).foldl exprL (exprsL m a n.eqs n.autos)
def nodeL(m:Nat)(a:List Str)(n:Nod):List Str:=everyL m (statesL m (gatherL (ins a n.name) (varsL n)) n.eqs n.autos) n
def enumL(a:List Str)(u:En):List Str:=u.tags.foldl ins (ins a u.name)
def knownL(m:Nat)(p:Prog):List Str:=p.nodes.foldl (nodeL m) (p.enums.foldl enumL [])
theorem sub_ins(a:List Str)(s:Str):a ⊆ ins a s:=fun x hx=>by
 unfold ins
 split
 ·exact hx
 ·exact List.mem_append_left _ hx
theorem mem_ins(a:List Str)(s:Str):s∈ins a s:=by
 unfold ins
 split
 ·assumption
 ·simp
theorem sub_fold{α:Type}{f:List Str->α->List Str}:∀ {l:List α} {a:List Str},(∀a x,x∈l->a ⊆ f a x)->a ⊆ l.foldl f a
 | [],a,_=>fun _ h=>h
 | x::l,a,h=>fun s hs=>sub_fold (l:=l) (a:=f a x) (fun a y hy=>h a y (List.mem_cons_of_mem _ hy)) (h a x (List.mem_cons_self ..) hs)
theorem mem_fold{α:Type}{f:List Str->α->List Str}{s:Str}{x:α}:∀ {l:List α} {a:List Str},x∈l->(∀a x,x∈l->a ⊆ f a x)->(∀a,s∈f a x)->s∈l.foldl f a
 | y::l,a,hx,h,hm=>by
   rw[List.foldl_cons]
   rcases List.mem_cons.1 hx with rfl|hx
   ·exact sub_fold (fun a y hy=>h a y (List.mem_cons_of_mem _ hy)) (hm a)
   ·exact mem_fold hx (fun a y hy=>h a y (List.mem_cons_of_mem _ hy)) hm
theorem sub_one(a:List Str)(x:Ex):a ⊆ oneL a x:=by
 unfold oneL
 split
 ·exact sub_ins a x.name
 ·exact fun _ h=>h
theorem sub_expr(a:List Str)(e:Ex):a ⊆ exprL a e:=sub_fold fun a x _=>sub_one a x
theorem known_expr{m:Nat}{p:Prog}{n:Nod}{e x:Ex}(hn:n∈p.nodes)(he:e∈n.assume)(hx:x∈flat e)(hk:keepK x.kind.1=true)(hs:∀a n,n∈p.nodes->a ⊆ nodeL m a n):x.name∈knownL m p:=by
 refine mem_fold hn hs fun a=>?_
 unfold nodeL everyL
 refine mem_fold (List.mem_append_left _ he) (fun a e _=>sub_expr a e) fun a=>?_
 refine mem_fold hx (fun a x _=>sub_one a x) fun a=>?_
 unfold oneL
 rw[if_pos hk]
 exact mem_ins a x.name
theorem sub_gather(a:List Str)(ds:List Decl):a ⊆ gatherL a ds:=sub_fold fun a d _=>fun s hs=>sub_fold (fun a o _=>sub_ins a _) (sub_ins a d.name hs)
theorem sub_states:∀(m:Nat) (a:List Str) (qs:List Equ) (l:List Auto),a ⊆ statesL m a qs l
 | 0,a,_,_=>fun _ h=>h
 | m+1,a,qs,l=>fun s hs=>by
   unfold statesL
   refine sub_fold (fun a x _=>sub_fold fun a s _=>fun t ht=>sub_states m _ _ _ (sub_gather _ _ (sub_ins a _ ht))) ?_
   exact sub_fold (fun a q _=>sub_fold fun a s _=>sub_ins a s) hs
theorem sub_exprs:∀(m:Nat) (a:List Str) (qs:List Equ) (l:List Auto),a ⊆ exprsL m a qs l
 | 0,a,_,_=>fun _ h=>h
 | m+1,a,qs,l=>fun s hs=>by
   unfold exprsL
   refine sub_fold (fun a x _=>sub_fold fun a s _=>fun t ht=>sub_fold (fun a t _=>sub_expr a _) (sub_exprs m _ _ _ ht)) ?_
   exact sub_fold (fun a q _=>sub_expr a _) hs
theorem sub_node(m:Nat)(a:List Str)(n:Nod):a ⊆ nodeL m a n:=fun s hs=>by
 unfold nodeL everyL
 exact sub_fold (fun a e _=>sub_expr a e) (sub_exprs m _ _ _ (sub_states m _ _ _ (sub_gather _ _ (sub_ins a _ hs))))
def valD(s:Str):Nat:=s.foldl (fun a c=>10*a+(c.toNat-48)) 0
theorem val_dig:∀(m u:Nat),u≤m->valD (Go.Lib.decDigits u)=u
 | m,u,h=>by
   have hd:∀k:Nat,k<10->(UInt8.ofNat (48+k)).toNat-48=k:=by
    intro k hk
    have:k=0\/k=1\/k=2\/k=3\/k=4\/k=5\/k=6\/k=7\/k=8\/k=9:=by omega
    rcases this with rfl|rfl|rfl|rfl|rfl|rfl|rfl|rfl|rfl|rfl <;> rfl
   rw[Go.Lib.decDigits]
   split
   ·rename_i hu
    simp[valD]
    omega
   ·cases m with
    | zero=>omega
    | succ m=>
      have ih:=val_dig m (u / 10) (by omega)
      unfold valD at ih⊢
      rw[List.foldl_append,ih]
      simp only[List.foldl_cons,List.foldl_nil,hd _ (Nat.mod_lt _ (by decide:0<10))]
      omega
def nameN(base:Str)(n:Nat):Str:=base++[95]++Go.Lib.itoa (n:Int)
theorem nameN_inj{base:Str}{n k:Nat}(h:nameN base n=nameN base k):n=k:=by
 have h1:Go.Lib.itoa (n:Int)=Go.Lib.itoa (k:Int):=List.append_cancel_left h
 unfold Go.Lib.itoa at h1
 rw[if_neg (by omega),if_neg (by omega)]at h1
 have h2:=congrArg valD h1
 rw[val_dig _ _ (Nat.le_refl _),val_dig _ _ (Nat.le_refl _)]at h2
 omega
def frs(l:List Str)(base:Str):Nat->Nat->Nat
 | 0,n=>n
 | f+1,n=>if nameN base n∈l then frs l base f (n+1) else n
theorem frs_all(l:List Str)(base:Str):∀(f n:Nat),(nameN base (frs l base f n) ∉ l/\frs l base f n<n+f/\∀i,n≤i->i<frs l base f n->nameN base i∈l)\/∀i,n≤i->i<n+f->nameN base i∈l
 | 0,n=>.inr fun i h1 h2=>by omega
 | f+1,n=>by
   unfold frs
   split
   ·rename_i hm
    rcases frs_all l base f (n+1)with ⟨h1,h2,h3⟩|h
    ·refine .inl ⟨h1,by omega,fun i q1 q2=>?_⟩
     by_cases hi:i=n
     ·rw[hi];exact hm
     ·exact h3 i (by omega) q2
    ·refine .inr fun i q1 q2=>?_
     by_cases hi:i=n
     ·rw[hi];exact hm
     ·exact h i (by omega) (by omega)
   ·rename_i hm
    exact .inl ⟨hm,by omega,fun i q1 q2=>by omega⟩
theorem frs_ok(l:List Str)(base:Str)(n:Nat):nameN base (frs l base (l.length+1) n) ∉ l/\frs l base (l.length+1) n<n+(l.length+1)/\∀i,n≤i->i<frs l base (l.length+1) n->nameN base i∈l:=by
 rcases frs_all l base (l.length+1) n with h|h
 ·exact h
 ·exfalso
  have h1:((List.range (l.length+1)).map fun i=>nameN base (n+i)).Nodup:=by
   refine List.Pairwise.map _ (fun a b (hab:a≠b)=>?_) List.nodup_range
   intro he
   have:=nameN_inj he
   omega
  have h2:=h1.length_le_of_subset (l₂:=l) (by
   intro x hx
   obtain⟨i,hi,rfl⟩:=List.mem_map.1 hx
   have:=List.mem_range.1 hi
   exact h (n+i) (by omega) (by omega))
  simp at h2
  omega
def freshL(l:List Str)(base:Str):Str:=nameN base (frs l base (l.length+1) 1)
theorem fresh_not(l:List Str)(base:Str):freshL l base ∉ l:=(frs_ok l base 1).1
end Go.Proofs.YtddaclniamlmbaaGreatDoor
namespace Go.Proofs.YtddaclniamlmbaaGreatDoor
open Go Go.TL
attribute [local irreducible] TR TO Then InBlock RetK Sound LoopK Kf GG ThenL
structure Lv where
 own:List Str
 done:List Str
 defs:List Str
structure Lv.ok (a:Lv):Prop where
 own:SetOk a.own
 done:SetOk a.done
inductive Ch where
 | one (a:Lv)
 | c1 (i:List Str) (a:Lv)
 | c2 (i:List Str) (a b:Lv)
 | c3 (i:List Str) (a b c:Lv)
 | c4 (i:List Str) (a b c d:Lv)
abbrev nilP:SV:=.t (.v (.pointer none))
abbrev nilM:SV:=.t (.v (.map none))
abbrev nilS:SV:=.t (.v (.slice none 0 0))
abbrev rowB (l:List Str):Blk:=.row 9 (l.map T.s)
abbrev nmB (up:SV)(b:Nat)(inp:SV)(a:Lv):Blk:=.cells [up,.mp b,.mp (b+1),inp,.rw (b+3) (a.defs.map T.s).length]
abbrev lkB (p:Prog)(n q:Int):Blk:=.cells [.t (.sl 2 (p.enums.map enT)),.t (nodesT p.nodes),.i n,.i q,.mp 1]
namespace Ch
def vis0:Ch->List Str
 | one _=>[]|c1 _ _=>[]|c2 _ a _=>a.own|c3 _ a b _=>a.own++b.own|c4 _ a b c _=>a.own++b.own++c.own
def top:Ch->Lv
 | one a=>a|c1 _ a=>a|c2 _ _ b=>b|c3 _ _ _ c=>c|c4 _ _ _ _ d=>d
def low:Ch->List Str
 | one _=>[]|c1 i _=>i|c2 i a _=>i++a.done|c3 i a b _=>i++a.done++b.done|c4 i a b c _=>i++a.done++b.done++c.done
def set:Ch->Lv->Ch
 | one _,x=>one x|c1 i _,x=>c1 i x|c2 i a _,x=>c2 i a x|c3 i a b _,x=>c3 i a b x|c4 i a b c _,x=>c4 i a b c x
def vis(h:Ch):List Str:=h.vis0++h.top.own
def id:Ch->Nat
 | one _=>4|c1 .. =>4|c2 .. =>9|c3 .. =>13|c4 .. =>17
def N:Ch->Nat
 | one _=>5|c1 .. =>7|c2 .. =>11|c3 .. =>15|c4 .. =>19
def heap:Ch->Heap
 | one a=>[setB a.own,setB a.done,.cells [nilP,.mp 2,.mp 3,nilM,nilS]]
 | c1 i a=>[setB a.own,setB a.done,nmB nilP 2 (.mp 6) a,rowB a.defs,setB i]
 | c2 i a b=>[setB a.own,setB a.done,nmB nilP 2 (.mp 6) a,rowB a.defs,setB i,setB b.own,setB b.done,nmB (.ref 4 0) 7 nilM b,rowB b.defs]
 | c3 i a b c=>[setB a.own,setB a.done,nmB nilP 2 (.mp 6) a,rowB a.defs,setB i,setB b.own,setB b.done,nmB (.ref 4 0) 7 nilM b,rowB b.defs,setB c.own,setB c.done,nmB (.ref 9 0) 11 nilM c,rowB c.defs]
 | c4 i a b c d=>[setB a.own,setB a.done,nmB nilP 2 (.mp 6) a,rowB a.defs,setB i,setB b.own,setB b.done,nmB (.ref 4 0) 7 nilM b,rowB b.defs,setB c.own,setB c.done,nmB (.ref 9 0) 11 nilM c,rowB c.defs,setB d.own,setB d.done,nmB (.ref 13 0) 15 nilM d,rowB d.defs]
def ok:Ch->Prop
 | one a=>a.ok|c1 i a=>SetOk i/\a.ok|c2 i a b=>SetOk i/\a.ok/\b.ok|c3 i a b c=>SetOk i/\a.ok/\b.ok/\c.ok|c4 i a b c d=>SetOk i/\a.ok/\b.ok/\c.ok/\d.ok
end Ch
def Ch.push:Ch->Lv->Ch
 | .c1 i a,x=>.c2 i a x| .c2 i a b,x=>.c3 i a b x| .c3 i a b c,x=>.c4 i a b c x|h,_=>h
theorem Ch.lt{P:Ch->Prop}(k:∀h,let g:=h;P g):∀h,P h:=k
abbrev full (p:Prog)(n q:Int)(seen:List (Int×Str×Int))(h:Ch):Heap:=lkB p n q::seenB seen::h.heap
theorem retV{rs:List ResultVar}{env:Env}{H:Heap}{v v':SV}(hr:resAll tab env H rs=some [v'])(hv:v'=v)(hu:v.under H.length=true)(hb:blksUnder H.length H=true):
  RetK tab rs H.length (fun r H'=>r= .ret v/\H'=H) .ret env H:=RetK.at H.length hr (by subst hv;exact Le.refl _) (Nat.le_refl _) rfl hu hb ⟨rfl,rfl⟩
theorem bsv{a b:Bool}(h:a=b):SV.b a=SV.b b:=by rw[h]
theorem sees_sound(p:Prog)(n q:Int)(seen:List (Int×Str×Int))(h:Ch)(hk:h.ok)(nm:Str)(hs:nm.length≤1000000000):
  Sound Tryz.prog 203 [.ref h.id 0,.s nm] (full p n q seen h) (fun r H'=>r= .ret (.b (decide (nm∈h.vis)))/\H'=full p n q seen h):=by
 cases h
 all_goals
  first
  | have a1:=hk.own
  | have a1:=hk.2.own
  | have a1:=hk.2.1.own;have b1:=hk.2.2.own
  | have a1:=hk.2.1.own;have b1:=hk.2.2.1.own;have c1:=hk.2.2.2.own
  | have a1:=hk.2.1.own;have b1:=hk.2.2.1.own;have c1:=hk.2.2.2.1.own;have d1:=hk.2.2.2.2.own
  simp only[full,Ch.heap,Ch.id,Ch.vis,Ch.vis0,Ch.top]
  refine so Tryz.func203 ?_
  repeat' (first|refine wkt ?_|refine wka ?_|refine wk ?_|exact wkc|intro hc|refine wk2 ?_ ?_|(apply TO.setGet;exact rfl;exact rfl;exact rfl;exact rfl;assumption;assumption)|(apply TO.nilGet;exact rfl;exact rfl;exact rfl;assumption)|(apply TO.ne_nil_ptr tabOk;exact rfl;exact rfl;exact rfl;exact rfl;exact rfl)|(apply TO.ne_nil_nil tabOk;exact rfl;exact rfl;exact rfl;exact rfl)|refine Go.TL.TR.loop ?_|refine Then.normal ?_|refine Then.exit ?_|refine Then.ret ?_|fail)
  all_goals exact retV rfl (bsv (by simp_all)) rfl rfl
theorem defined_sound(p:Prog)(n q:Int)(seen:List (Int×Str×Int))(h:Ch)(hk:h.ok)(nm:Str)(hs:nm.length≤1000000000):
  Sound Tryz.prog 204 [.ref h.id 0,.s nm] (full p n q seen h) (fun r H'=>r= .ret (.b (decide (nm∈h.low\/nm∈h.top.done)))/\H'=full p n q seen h):=by
 cases h
 all_goals
  first
  | have a1:=hk.done
  | have a1:=hk.2.done
  | have a1:=hk.2.1.done;have b1:=hk.2.2.done
  | have a1:=hk.2.1.done;have b1:=hk.2.2.1.done;have c1:=hk.2.2.2.done
  | have a1:=hk.2.1.done;have b1:=hk.2.2.1.done;have c1:=hk.2.2.2.1.done;have d1:=hk.2.2.2.2.done
  have i1:=hk.1
  simp only[full,Ch.heap,Ch.id,Ch.low,Ch.top]
  refine so Tryz.func204 ?_
  repeat' (first|refine wkt ?_|refine wka ?_|refine wk ?_|exact wkc|intro hc|refine wk2 ?_ ?_|(apply TO.setGet;exact rfl;exact rfl;exact rfl;exact rfl;assumption;assumption)|(apply TO.nilGet;exact rfl;exact rfl;exact rfl;assumption)|(apply TO.ne_nil_ptr tabOk;exact rfl;exact rfl;exact rfl;exact rfl;exact rfl)|(apply TO.ne_nil_nil tabOk;exact rfl;exact rfl;exact rfl;exact rfl)|refine Go.TL.TR.loop ?_|refine Then.normal ?_|refine Then.exit ?_|refine Then.ret ?_|fail)
  all_goals exact retV rfl (bsv (by simp_all)) rfl rfl
end Go.Proofs.YtddaclniamlmbaaGreatDoor
