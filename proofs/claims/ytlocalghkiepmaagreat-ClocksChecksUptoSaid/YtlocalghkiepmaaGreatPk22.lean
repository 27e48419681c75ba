import Derived.DeepKeys5
import Derived.Test.YtlocalghkiepmaaGreatPk18
import Derived.Test.YtlocalghkiepmaaGreatPk21
set_option linter.unusedSimpArgs false
set_option linter.unusedVariables false
namespace Go.Proofs.YtlocalghkiepmaaGreat
open Go Go.TL
attribute [local irreducible] TR TO Then InBlock RetK Sound LoopK Kf GG ThenL
theorem kStr:Maps.Keyed Tryz.prog 9:=Maps.string_keyed Tryz.underlying9
set_option maxRecDepth 100000 in
theorem kKey:Maps.Keyed Tryz.prog 111:=Maps.Keyed.of_law (deep_law_laid (m:=3) (by kernel_rfl) (by decide) (Nat.le_of_ble_eq_true (by kernel_rfl)) (by kernel_rfl) (by kernel_rfl))
theorem keyS{s:Str}(h:s.length≤1000000000):∃l,keyOf Tryz.prog 9 (str s)=some l:=by
 refine⟨.string s,?_⟩
 have:(⟨s.toArray⟩:ByteArray).size≤maxLen:=by
  show s.toArray.size≤maxLen
  simp[maxLen];omega
 simp[keyOf,Tryz.underlying9,mapKey,this]
abbrev keyV (k:Int)(s:Str):Value:=.agg #[.int .i64 k,str s]
theorem keyTy:Tryz.prog.keyType 111=true:=by kernel_rfl
theorem cells2:Tryz.prog.cellsOf 111=2:=by kernel_rfl
theorem cells3:Tryz.prog.cellsOf 3=1:=by kernel_rfl
theorem cells4:Tryz.prog.cellsOf 9=1:=by kernel_rfl
theorem typesN:∃N,Tryz.prog.types.size=N+1:=⟨Tryz.prog.types.size-1,by kernel_rfl⟩
theorem keyLitsK(N:Nat){k:Int}{s:Str}(hw:(Lit.int .i64 k).wf=true)(hs:(⟨s.toArray⟩:ByteArray).size≤maxLen):
  (Tryz.prog.keyLits (N+1+1) 111 [.int .i64 k,str s])=some [.int .i64 k,.string s]:=by
 have e1:∀c,Tryz.prog.keyLits (N+1) 3 [c]=(match c with| .int q' n=>if q'= .i64/\(Lit.int .i64 n).wf=true then some [.int .i64 n] else none|_=>none):=fun c=>by
  unfold Program.keyLits
  simp only[Tryz.underlying3]
  cases c <;> rfl
 have e2:Tryz.prog.keyLits (N+1) 9 [str s]=some [.string s]:=by
  unfold Program.keyLits
  simp only[Tryz.underlying9]
  rw[if_pos hs]
 unfold Program.keyLits
 simp only[Tryz.underlying111,cells2]
 simp only[List.length_cons,List.length_nil,List.mapM_cons,List.mapM_nil,cells3,cells4,List.drop_zero,List.take,List.drop,e1,e2,hw]
 simp
theorem keyK{k:Int}{s:Str}(hk:0≤k/\k≤2)(h:s.length≤1000000000):∃l,keyOf Tryz.prog 111 (keyV k s)=some l:=by
 have hs:(⟨s.toArray⟩:ByteArray).size≤maxLen:=by
  show s.toArray.size≤maxLen
  simp[maxLen];omega
 have hw:(Lit.int .i64 k).wf=true:=by
  simp only[Lit.wf,Bool.and_eq_true,decide_eq_true_eq]
  exact⟨by show(-9223372036854775808:Int)≤k;omega,by show k≤(9223372036854775807:Int);omega⟩
 have h5:(Value.agg #[.int .i64 k,str s]).formed Tryz.prog 111=true:=by
  simp only[Value.formed,Tryz.underlying111,cells2];rfl
 obtain⟨N,hN⟩:=typesN
 refine⟨.string (keyBytes [.int .i64 k,.string s]),?_⟩
 rw[keyOf,Tryz.underlying111]
 simp only[keyTy,h5,hN,Value.cells,Bool.and_self,if_true,keyLitsK N hw hs,Option.map_some]
def ins(l:List Str)(s:Str):List Str:=if s∈l then l else l++[s]
abbrev setB (l:List Str):Blk:=.map 9 4 (l.map fun s=>(str s,.v (.bool true)))
abbrev seenB (l:List (Int×Str×Int)):Blk:=.map 111 3 (l.map fun e=>(keyV e.1 e.2.1,.v (.int .i64 e.2.2)))
structure SetOk (l:List Str):Prop where
 nodup:l.Nodup
 short:∀s∈l,s.length≤1000000000
structure SeenOk (l:List (Int×Str×Int)):Prop where
 nodup:(l.map fun e=>(e.1,e.2.1)).Nodup
 short:∀e∈l,(0≤e.1/\e.1≤2)/\e.2.1.length≤1000000000
def seenGet(l:List (Int×Str×Int))(k:Int)(s:Str):Option Int:=(l.find? fun e=>decide (e.1=k/\e.2.1=s)).map fun e=>e.2.2
theorem str_inj{a b:Str}(h:str a=str b):a=b:=by
 simp only[str,Value.string.injEq,ByteArray.mk.injEq]at h
 simpa using h
theorem keyV_inj{k j:Int}{a b:Str}(h:keyV k a=keyV j b):k=j/\a=b:=by
 simp only[keyV,Value.agg.injEq,Array.mk.injEq,List.cons.injEq,Value.int.injEq,true_and,and_true]at h
 exact⟨h.1,str_inj h.2⟩
theorem SetOk.nil:SetOk []:=⟨List.nodup_nil,by simp⟩
theorem SetOk.ins{l:List Str}{s:Str}(h:SetOk l)(hs:s.length≤1000000000):SetOk (ins l s):=by
 unfold Go.Proofs.YtlocalghkiepmaaGreat.ins
 split
 ·exact h
 ·rename_i hn
  refine⟨List.nodup_append.2 ⟨h.nodup,by simp,fun a ha b hb e=>?_⟩,fun x hx=>?_⟩
  ·simp at hb;subst hb;subst e;exact hn ha
  ·simp at hx;rcases hx with hx|rfl
   ·exact h.short x hx
   ·exact hs
theorem SetOk.keys{l:List Str}(h:SetOk l):KeysOk Tryz.prog 9 (l.map fun s=>(str s,.v (.bool true))):=by
 intro j e he
 rw[List.getElem?_map]at he
 cases hq:l[j]? with
 | none=>rw[hq]at he;cases he
 | some s=>rw[hq]at he;cases he;exact keyS (h.short s (List.mem_of_getElem? hq))
theorem SeenOk.nil:SeenOk []:=⟨List.nodup_nil,by simp⟩
theorem SeenOk.keys{l:List (Int×Str×Int)}(h:SeenOk l):KeysOk Tryz.prog 111 (l.map fun e=>(keyV e.1 e.2.1,.v (.int .i64 e.2.2))):=by
 intro j e he
 rw[List.getElem?_map]at he
 cases hq:l[j]? with
 | none=>rw[hq]at he;cases he
 | some s=>rw[hq]at he;cases he;have:=h.short s (List.mem_of_getElem? hq);exact keyK this.1 this.2
theorem SeenOk.add{l:List (Int×Str×Int)}{k v:Int}{s:Str}(h:SeenOk l)(hk:0≤k/\k≤2)(hs:s.length≤1000000000)(hn:seenGet l k s=none):SeenOk (l++[(k,s,v)]):=by
 refine⟨?_,fun e he=>?_⟩
 ·rw[List.map_append]
  refine List.nodup_append.2 ⟨h.nodup,by simp,fun a ha b hb e=>?_⟩
  simp at hb;subst hb;subst e
  obtain⟨e,he,heq⟩:=List.mem_map.1 ha
  simp only[seenGet,Option.map_eq_none_iff,List.find?_eq_none,decide_eq_true_eq]at hn
  simp only[Prod.mk.injEq]at heq
  exact hn e he heq
 ·simp at he;rcases he with he|rfl
  ·exact h.short e he
  ·exact⟨hk,hs⟩
theorem set_get{l:List Str}(h:SetOk l)(s:Str):MapGet (l.map fun s=>(str s,T.v (.bool true))) (str s) (if s∈l then some (.v (.bool true)) else none):=by
 by_cases hm:s∈l
 ·rw[if_pos hm]
  obtain⟨j,hj⟩:=List.getElem?_of_mem hm
  refine⟨j,by simp[hj],fun j' t' h'=>?_⟩
  rw[List.getElem?_map]at h'
  cases hq:l[j']? with
  | none=>rw[hq]at h';cases h'
  | some x=>
    rw[hq]at h'
    simp only[Option.map_some,Option.some.injEq,Prod.mk.injEq]at h'
    have:=str_inj h'.1
    subst this
    exact(List.getElem?_inj (List.getElem?_eq_some_iff.1 hq).1 h.nodup).1 (hq.trans hj.symm)
 ·rw[if_neg hm]
  intro j e he e2
  rw[List.getElem?_map]at he
  cases hq:l[j]? with
  | none=>rw[hq]at he;cases he
  | some x=>
    rw[hq]at he;cases he
    have:=str_inj e2
    subst this
    exact hm (List.mem_of_getElem? hq)
theorem set_put{l:List Str}(h:SetOk l)(s:Str):MapPut (l.map fun s=>(str s,T.v (.bool true))) (str s) (.v (.bool true)) ((ins l s).map fun s=>(str s,T.v (.bool true))):=by
 have hg:=set_get h s
 unfold ins
 by_cases hm:s∈l
 ·rw[if_pos hm]at hg⊢
  obtain⟨j,hj,hu⟩:=hg
  refine .inl ⟨j,_,hj,hu,?_⟩
  have hlt:=(List.getElem?_eq_some_iff.1 hj)
  conv=>rhs;rw[<-hlt.2]
  rw[List.set_getElem_self]
 ·rw[if_neg hm]at hg⊢
  exact .inr ⟨hg,by simp⟩
theorem seen_get{l:List (Int×Str×Int)}(h:SeenOk l)(k:Int)(s:Str):MapGet (l.map fun e=>(keyV e.1 e.2.1,T.v (.int .i64 e.2.2))) (keyV k s) ((seenGet l k s).map fun v=>.v (.int .i64 v)):=by
 unfold seenGet
 cases hf:l.find? (fun e=>decide (e.1=k/\e.2.1=s)) with
 | none=>
   rw[List.find?_eq_none]at hf
   intro j e he e2
   rw[List.getElem?_map]at he
   cases hq:l[j]? with
   | none=>rw[hq]at he;cases he
   | some x=>
     rw[hq]at he;cases he
     exact hf x (List.mem_of_getElem? hq) (by simpa using keyV_inj e2)
 | some e=>
   have hm:=List.mem_of_find?_eq_some hf
   have hp:=List.find?_some hf
   simp only[decide_eq_true_eq]at hp
   obtain⟨j,hj⟩:=List.getElem?_of_mem hm
   refine⟨j,by simp[hj,hp.1,hp.2],fun j' t' h'=>?_⟩
   rw[List.getElem?_map]at h'
   cases hq:l[j']? with
   | none=>rw[hq]at h';cases h'
   | some x=>
     rw[hq]at h'
     simp only[Option.map_some,Option.some.injEq,Prod.mk.injEq]at h'
     have h1:=keyV_inj h'.1
     have e1:(l.map fun e=>(e.1,e.2.1))[j']?=some (k,s):=by simp[hq,h1.1,h1.2]
     have e2:(l.map fun e=>(e.1,e.2.1))[j]?=some (k,s):=by simp[hj,hp.1,hp.2]
     exact(List.getElem?_inj (List.getElem?_eq_some_iff.1 e1).1 h.nodup).1 (e1.trans e2.symm)
theorem key_rel{k:Int}{s:Str}{m:M}{v:Value}(h:SRel m (.t (.ag [.i k,.s s])) v):v=keyV k s:=by
 cases h with
 | t _ _ h=>
   cases h with
   | ag _ arr hs h1 h2=>
     obtain⟨l⟩:=arr
     match l,hs with
     | [a,b],_=>
       have ha:=h2 0 _ a rfl rfl
       have hb:=h2 1 _ b rfl rfl
       cases ha;cases hb
       rfl
section
variable {n:Nat}{env:Env}{K:TK}{all:Array Oper}{rest:List Oper}{d id:Nat}{ty:TypeId}{pos:String}{aft:Array Edge}{H:Heap}{x y w:Operand}{q:Bool}
theorem TO.setGet{l:List Str}{s:Str}(hd:Nat.ble (d+1) n=true)(hx:env.val x=some (.mp id))(hH:H[id]?=some (setB l))(hy:env.val y=some (.s s))(hl:SetOk l)(hs:s.length≤1000000000)
  (k1:s∈l->TO q Tryz.prog n all rest ((d,.b true)::env) H K)(k2:s ∉ l->TO q Tryz.prog n all rest ((d,.b false)::env) H K):
  TO q Tryz.prog n all (⟨some d,.lookup 159 x y false,ty,pos,aft,none⟩::rest) env H K:=by
 refine TO.lookup tabOk hd rfl rfl rfl rfl rfl kStr hx hH hl.keys hy (kx:=str s) (fun m v h=>h.v_eq) (keyS hs) (set_get hl s) ?_
 by_cases hm:s∈l
 ·rw[if_pos hm];exact k1 hm
 ·rw[if_neg hm];exact k2 hm
theorem TO.nilGet{s:Str}(hd:Nat.ble (d+1) n=true)(hx:env.val x=some (.t (.v (.map none))))(hy:env.val y=some (.s s))(hs:s.length≤1000000000)(k:TO q Tryz.prog n all rest ((d,.b false)::env) H K):
  TO q Tryz.prog n all (⟨some d,.lookup 159 x y false,ty,pos,aft,none⟩::rest) env H K:=
 TO.lookup_nil tabOk hd rfl rfl rfl rfl rfl kStr hx hy (kx:=str s) (fun m v h=>h.v_eq) (keyS hs) k
theorem TO.setPut{l:List Str}{s:Str}{H':Heap}(hx:env.val x=some (.mp id))(hH:H[id]?=some (setB l))(hy:env.val y=some (.s s))(hw:env.val w=some (.b true))(hl:SetOk l)(hs:s.length≤1000000000)
  (hH':setS H id (setB (ins l s))=some H')(k:TO false Tryz.prog n all rest env H' K):
  TO false Tryz.prog n all (⟨none,.mapUpdate 159 x y w,ty,pos,aft,none⟩::rest) env H K:=
 TO.mapUpdate tabOk rfl rfl kStr hx hH hl.keys hy (kx:=str s) (fun m v h=>h.v_eq) (keyS hs) hw rfl (set_put hl s) (setS_eq hH').symm k
theorem TO.seenLook{l:List (Int×Str×Int)}{s:Str}{k:Int}(hd:Nat.ble (d+1) n=true)(hx:env.val x=some (.mp id))(hH:H[id]?=some (seenB l))(hy:env.val y=some (.t (.ag [.i k,.s s])))(hl:SeenOk l)(hk:0≤k/\k≤2)(hs:s.length≤1000000000)
  (k1:∀v,seenGet l k s=some v->TO q Tryz.prog n all rest ((d,.tup [.i v,.b true])::env) H K)(k2:seenGet l k s=none->TO q Tryz.prog n all rest ((d,.tup [.i 0,.b false])::env) H K):
  TO q Tryz.prog n all (⟨some d,.lookup 104 x y true,ty,pos,aft,none⟩::rest) env H K:=by
 refine TO.lookup tabOk hd rfl rfl rfl rfl rfl kKey hx hH hl.keys hy (kx:=keyV k s) (fun m v h=>key_rel h) (keyK hk hs) (seen_get hl k s) ?_
 cases hg:seenGet l k s with
 | none=>exact k2 hg
 | some v=>exact k1 v hg
theorem TO.seenPut{l:List (Int×Str×Int)}{s:Str}{k v:Int}{H':Heap}(hx:env.val x=some (.mp id))(hH:H[id]?=some (seenB l))(hy:env.val y=some (.t (.ag [.i k,.s s])))(hw:env.val w=some (.i v))(hl:SeenOk l)(hn:seenGet l k s=none)(hk:0≤k/\k≤2)(hs:s.length≤1000000000)
  (hH':setS H id (seenB (l++[(k,s,v)]))=some H')(kk:TO false Tryz.prog n all rest env H' K):
  TO false Tryz.prog n all (⟨none,.mapUpdate 104 x y w,ty,pos,aft,none⟩::rest) env H K:=by
 have hg:=seen_get hl k s
 rw[hn]at hg
 exact TO.mapUpdate tabOk rfl rfl kKey hx hH hl.keys hy (kx:=keyV k s) (fun m v h=>key_rel h) (keyK hk hs) hw rfl (.inr ⟨hg,by rw[List.map_append];rfl⟩) (setS_eq hH').symm kk
end
end Go.Proofs.YtlocalghkiepmaaGreat
namespace Go.Proofs.YtlocalghkiepmaaGreat
open Go Go.TL
attribute [local irreducible] TR TO Then InBlock RetK Sound LoopK Kf GG ThenL
structure Lv where
 own:List Str
 done:List Str
 defs:List Str
structure Lv.ok (a:Lv):Prop where
 own:SetOk a.own
 done:SetOk a.done
inductive Ch where
 | one (a:Lv)
 | c1 (i:List Str) (a:Lv)
 | c2 (i:List Str) (a b:Lv)
 | c3 (i:List Str) (a b c:Lv)
 | c4 (i:List Str) (a b c d:Lv)
abbrev nilP:SV:=.t (.v (.pointer none))
abbrev nilM:SV:=.t (.v (.map none))
abbrev nilS:SV:=.t (.v (.slice none 0 0))
abbrev rowB (l:List Str):Blk:=.row 9 (l.map T.s)
abbrev nmB (up:SV)(b:Nat)(inp:SV)(a:Lv):Blk:=.cells [up,.mp b,.mp (b+1),inp,.rw (b+3) (a.defs.map T.s).length]
abbrev lkB (p:Prog)(n q:Int):Blk:=.cells [.t (.sl 2 (p.enums.map enT)),.t (nodesT p.nodes),.i n,.i q,.mp 1]
namespace Ch
def vis0:Ch->List Str
 | one _=>[]|c1 _ _=>[]|c2 _ a _=>a.own|c3 _ a b _=>a.own++b.own|c4 _ a b c _=>a.own++b.own++c.own
def top:Ch->Lv
 | one a=>a|c1 _ a=>a|c2 _ _ b=>b|c3 _ _ _ c=>c|c4 _ _ _ _ d=>d
def low:Ch->List Str
 | one _=>[]|c1 i _=>i|c2 i a _=>i++a.done|c3 i a b _=>i++a.done++b.done|c4 i a b c _=>i++a.done++b.done++c.done
def set:Ch->Lv->Ch
 | one _,x=>one x|c1 i _,x=>c1 i x|c2 i a _,x=>c2 i a x|c3 i a b _,x=>c3 i a b x|c4 i a b c _,x=>c4 i a b c x
def vis(h:Ch):List Str:=h.vis0++h.top.own
def id:Ch->Nat
 | one _=>4|c1 .. =>4|c2 .. =>9|c3 .. =>13|c4 .. =>17
def N:Ch->Nat
 | one _=>5|c1 .. =>7|c2 .. =>11|c3 .. =>15|c4 .. =>19
def heap:Ch->Heap
 | one a=>[setB a.own,setB a.done,.cells [nilP,.mp 2,.mp 3,nilM,nilS]]
 | c1 i a=>[setB a.own,setB a.done,nmB nilP 2 (.mp 6) a,rowB a.defs,setB i]
 | c2 i a b=>[setB a.own,setB a.done,nmB nilP 2 (.mp 6) a,rowB a.defs,setB i,setB b.own,setB b.done,nmB (.ref 4 0) 7 nilM b,rowB b.defs]
 | c3 i a b c=>[setB a.own,setB a.done,nmB nilP 2 (.mp 6) a,rowB a.defs,setB i,setB b.own,setB b.done,nmB (.ref 4 0) 7 nilM b,rowB b.defs,setB c.own,setB c.done,nmB (.ref 9 0) 11 nilM c,rowB c.defs]
 | c4 i a b c d=>[setB a.own,setB a.done,nmB nilP 2 (.mp 6) a,rowB a.defs,setB i,setB b.own,setB b.done,nmB (.ref 4 0) 7 nilM b,rowB b.defs,setB c.own,setB c.done,nmB (.ref 9 0) 11 nilM c,rowB c.defs,setB d.own,setB d.done,nmB (.ref 13 0) 15 nilM d,rowB d.defs]
def ok:Ch->Prop
 | one a=>a.ok|c1 i a=>SetOk i/\a.ok|c2 i a b=>SetOk i/\a.ok/\b.ok|c3 i a b c=>SetOk i/\a.ok/\b.ok/\c.ok|c4 i a b c d=>SetOk i/\a.ok/\b.ok/\c.ok/\d.ok
end Ch
def Ch.push:Ch->Lv->Ch
 | .c1 i a,x=>.c2 i a x| .c2 i a b,x=>.c3 i a b x| .c3 i a b c,x=>.c4 i a b c x|h,_=>h
theorem Ch.lt{P:Ch->Prop}(k:∀h,let g:=h;P g):∀h,P h:=k
abbrev full (p:Prog)(n q:Int)(seen:List (Int×Str×Int))(h:Ch):Heap:=lkB p n q::seenB seen::h.heap
theorem retV{rs:List ResultVar}{env:Env}{H:Heap}{v v':SV}(hr:resAll tab env H rs=some [v'])(hv:v'=v)(hu:v.under H.length=true)(hb:blksUnder H.length H=true):
  RetK tab rs H.length (fun r H'=>r= .ret v/\H'=H) .ret env H:=RetK.at H.length hr (by subst hv;exact Le.refl _) (Nat.le_refl _) rfl hu hb ⟨rfl,rfl⟩
theorem bsv{a b:Bool}(h:a=b):SV.b a=SV.b b:=by rw[h]
theorem sees_sound(p:Prog)(n q:Int)(seen:List (Int×Str×Int))(h:Ch)(hk:h.ok)(nm:Str)(hs:nm.length≤1000000000):
  Sound Tryz.prog 170 [.ref h.id 0,.s nm] (full p n q seen h) (fun r H'=>r= .ret (.b (decide (nm∈h.vis)))/\H'=full p n q seen h):=by
 cases h
 all_goals
  first
  | have a1:=hk.own
  | have a1:=hk.2.own
  | have a1:=hk.2.1.own;have b1:=hk.2.2.own
  | have a1:=hk.2.1.own;have b1:=hk.2.2.1.own;have c1:=hk.2.2.2.own
  | have a1:=hk.2.1.own;have b1:=hk.2.2.1.own;have c1:=hk.2.2.2.1.own;have d1:=hk.2.2.2.2.own
  simp only[full,Ch.heap,Ch.id,Ch.vis,Ch.vis0,Ch.top]
  refine Sound.of tabOk Tryz.func170 (by kernel_rfl) rfl rfl ?_
  repeat' (first|refine wkt ?_|refine wka ?_|refine wk ?_|exact wkc|intro hc|refine wk2 ?_ ?_|(apply TO.setGet;exact rfl;exact rfl;exact rfl;exact rfl;assumption;assumption)|(apply TO.nilGet;exact rfl;exact rfl;exact rfl;assumption)|(apply TO.ne_nil_ptr tabOk;exact rfl;exact rfl;exact rfl;exact rfl;exact rfl)|(apply TO.ne_nil_nil tabOk;exact rfl;exact rfl;exact rfl;exact rfl)|refine Go.TL.TR.loop ?_|refine Then.normal ?_|refine Then.exit ?_|refine Then.ret ?_|fail)
  all_goals exact retV rfl (bsv (by simp_all)) rfl rfl
theorem defined_sound(p:Prog)(n q:Int)(seen:List (Int×Str×Int))(h:Ch)(hk:h.ok)(nm:Str)(hs:nm.length≤1000000000):
  Sound Tryz.prog 171 [.ref h.id 0,.s nm] (full p n q seen h) (fun r H'=>r= .ret (.b (decide (nm∈h.low\/nm∈h.top.done)))/\H'=full p n q seen h):=by
 cases h
 all_goals
  first
  | have a1:=hk.done
  | have a1:=hk.2.done
  | have a1:=hk.2.1.done;have b1:=hk.2.2.done
  | have a1:=hk.2.1.done;have b1:=hk.2.2.1.done;have c1:=hk.2.2.2.done
  | have a1:=hk.2.1.done;have b1:=hk.2.2.1.done;have c1:=hk.2.2.2.1.done;have d1:=hk.2.2.2.2.done
  have i1:=hk.1
  simp only[full,Ch.heap,Ch.id,Ch.low,Ch.top]
  refine Sound.of tabOk Tryz.func171 (by kernel_rfl) rfl rfl ?_
  repeat' (first|refine wkt ?_|refine wka ?_|refine wk ?_|exact wkc|intro hc|refine wk2 ?_ ?_|(apply TO.setGet;exact rfl;exact rfl;exact rfl;exact rfl;assumption;assumption)|(apply TO.nilGet;exact rfl;exact rfl;exact rfl;assumption)|(apply TO.ne_nil_ptr tabOk;exact rfl;exact rfl;exact rfl;exact rfl;exact rfl)|(apply TO.ne_nil_nil tabOk;exact rfl;exact rfl;exact rfl;exact rfl)|refine Go.TL.TR.loop ?_|refine Then.normal ?_|refine Then.exit ?_|refine Then.ret ?_|fail)
  all_goals exact retV rfl (bsv (by simp_all)) rfl rfl
end Go.Proofs.YtlocalghkiepmaaGreat
namespace Go.TL
open Go
def DeadK(K:TK):TK
 | .panic v,env,H=>K (.panic v) env (List.replicate H.length .dead)
 | e,env,H=>K e env H
section rules
variable {P:Program}{n:Nat}{env:Env}{H:Heap}{K:TK}
theorem Post.dead{φ:Fm}{m:M}{e:Exit}{a:Act}{w:World}(h:Post φ m n (DeadK K) e a w):Post φ m n K e a w:=by
 obtain⟨m2,env2,te,rfl,s,hm,he,hd,hx,hk⟩:=h
 cases te with
 | normal=>exact⟨m2,env2,.normal,rfl,s,hm,he,hd,hx,hk⟩
 | exit i=>exact⟨m2,env2,.exit i,rfl,s,hm,he,hd,hx,hk⟩
 | ret=>exact⟨m2,env2,.ret,rfl,s,hm,he,hd,hx,hk⟩
 | panic v=>
   obtain⟨s1,hm1⟩:=dead_ok hm
   refine⟨⟨m2.A,m2.β,m2.H.map fun _=>.dead,m2.w⟩,env2,.panic v,rfl,s.trans s1,hm1,he.step hm s1,hd,?_,?_⟩
   ·cases e with
    | panic ch=>obtain⟨x,x1,x2⟩:=hx;exact⟨x,x1,s1.srel hm x2⟩
    | _=>simp[ExRel]at hx
   ·show K (.panic v) env2 (m2.H.map fun _=>Blk.dead)
    rw[List.map_const'];exact hk
theorem TR.dead{c:Code}(h:TR P n c env H (DeadK K)):TR P n c env H K:=
 fun φ m a h1 h2 h3 h4=>wpr_mono (h φ m a h1 h2 h3 h4) fun _ _ _ hp=>hp.dead
theorem DeadK.normal(h:K .normal env H):DeadK K .normal env H:=h
theorem DeadK.ret(h:K .ret env H):DeadK K .ret env H:=h
theorem DeadK.errP{tab:Tab}{rs:List ResultVar}{N:Nat}{c:Int}{v pv:SV}{H1:Heap}(hc:c≠0)(hN:N≤H.length)(hu:∀k,pv.under k=true):DeadK (RetK tab rs N (Err0 c v pv H1 N)) (.panic pv) env H:=
 RetK.errP (tab:=tab) (rs:=rs) (N:=N) (env:=env) (H:=List.replicate H.length .dead) hc (by simpa using hN) (hu _) (by rw[List.length_replicate];exact blksUnder_dead _ _)
end rules
end Go.TL
namespace Go.Proofs.YtlocalghkiepmaaGreat
open Go Go.TL
attribute [local irreducible] TR TO Then InBlock RetK Sound LoopK Kf GG ThenL
abbrev failS (n q c:Int):SV:=.ifc 101 (.t (.ag [T.i n,T.i q,T.i c]))
theorem mustS_ok(p:Prog)(n q:Int)(seen:List (Int×Str×Int))(e:Int):Sound Tryz.prog 114 [.ref 0 0,.b true,.i e] [lkB p n q,seenB seen] (fun r H'=>r= .ret (.tup [])/\H'=[lkB p n q,seenB seen]):=by
 refine Sound.of tabOk Tryz.func114 (by kernel_rfl) rfl rfl ?_
 repeat' (first|refine wkt ?_|refine wk ?_|exact wkc|intro hc|refine wk2 ?_ ?_|fail)
 exact RetK.keepN 2 (vs:=[]) rfl (Le.refl _) rfl rfl rfl rfl rfl ⟨rfl,rfl⟩
theorem mustS_no(p:Prog)(n q:Int)(seen:List (Int×Str×Int))(e:Int)(he:e≠0):Sound Tryz.prog 114 [.ref 0 0,.b false,.i e] [lkB p n q,seenB seen] (Err e (.tup []) (failS n q e) [lkB p n q,seenB seen]):=by
 refine Sound.err rfl (fun _=>rfl) ?_
 refine Sound.of tabOk Tryz.func114 (by kernel_rfl) rfl rfl ?_
 repeat' (first|refine wkt ?_|refine wk ?_|exact wkc|intro hc|refine wk2 ?_ ?_|(apply TO.makeInterface;exact rfl;kernel_rfl;exact rfl)|(apply TO.panic;exact rfl)|fail)
 exact RetK.errP he rfl rfl rfl
theorem Ch.len(h:Ch)(p:Prog)(n q:Int)(seen:List (Int×Str×Int)):(full p n q seen h).length=h.N:=by cases h <;> rfl
theorem Ch.under(h:Ch)(p:Prog)(n q:Int)(seen:List (Int×Str×Int)):blksUnder h.N (full p n q seen h)=true:=by cases h <;> rfl
theorem Ch.ge(h:Ch):5≤h.N:=by cases h <;> simp[Ch.N]
theorem Ch.tk(h:Ch)(p:Prog)(n q:Int)(seen:List (Int×Str×Int)):(full p n q seen h).take h.N=full p n q seen h:=List.take_of_length_le (by rw[Ch.len];exact Nat.le_refl _)
theorem Ch.tkl(h:Ch)(p:Prog)(n q:Int)(seen:List (Int×Str×Int)):(full p n q seen h).take (full p n q seen h).length=full p n q seen h:=List.take_of_length_le (Nat.le_refl _)
theorem Ch.und(h:Ch)(p:Prog)(n q:Int)(seen:List (Int×Str×Int)):blksUnder (full p n q seen h).length (full p n q seen h)=true:=by rw[Ch.len];exact Ch.under h p n q seen
theorem Ch.ble(h:Ch)(p:Prog)(n q:Int)(seen:List (Int×Str×Int)):Nat.ble (full p n q seen h).length (full p n q seen h).length=true:=by simp
section
variable {n:Nat}{env:Env}{K:TK}{all:Array Oper}{rest:List Oper}{d:Nat}{ty:TypeId}{pos:String}{aft:Array Edge}{p:Prog}{a q e:Int}{seen:List (Int×Str×Int)}{H Hr:Heap}{args:Array Operand}{ts:Array TypeId}
theorem TO.mustST(hd:Nat.ble (d+1) n=true)(ha:env.vals args.toList=some [.ref 0 0,.b true,.i e])(h1:H=lkB p a q::seenB seen::Hr)(k:TO false Tryz.prog n all rest ((d,.tup [])::env) H K):
  TO false Tryz.prog n all (⟨some d,.call { callee:=.value (.func 114),args:=args,argTypes:=ts },ty,pos,aft,none⟩::rest) env H K:=by
 subst h1
 exact TO.callD 2 (mustS_ok p a q seen e) hd rfl ha ⟨Le.refl _,Le.refl _,Le.refl _,trivial⟩ (by simp) rfl rfl rfl rfl rfl rfl (by simp[forceL_self]) k
theorem TO.mustSF(hd:Nat.ble (d+1) n=true)(ha:env.vals args.toList=some [.ref 0 0,.b false,.i e])(h1:H=lkB p a q::seenB seen::Hr)(he:e≠0)(k:K (.panic (failS a q e)) env (.dead:: .dead::Hr)):
  TO false Tryz.prog n all (⟨some d,.call { callee:=.value (.func 114),args:=args,argTypes:=ts },ty,pos,aft,none⟩::rest) env H K:=by
 subst h1
 exact TO.callEN 2 (mustS_no p a q seen e he) hd rfl ha ⟨Le.refl _,Le.refl _,Le.refl _,trivial⟩ (by simp) rfl rfl rfl rfl rfl rfl rfl (by simp[forceL_self];rfl) (fun h=>absurd h he) (fun _=>k)
theorem TO.callDb(N:Nat){Hc:Heap}{cargs:List SV}{b:Bool}{f:Operand}{fid:FuncId}{caps:List SV}{vs:List SV}
  (hs:Sound Tryz.prog fid cargs Hc fun r H'=>r= .ret (.b b)/\H'=Hc)(hd:Nat.ble (d+1) n=true)(hf:env.val f=some (.fn fid caps))(ha:env.vals args.toList=some vs)(hl:Les (vs++caps) cargs)
  (hN:N≤H.length)(hc:H.take N=Hc)(hu:unders N cargs=true)(hb:blksUnder N Hc=true)
  (k1:b=true->TO false Tryz.prog n all rest ((d,.b true)::env) H K)(k2:b=false->TO false Tryz.prog n all rest ((d,.b false)::env) H K):
  TO false Tryz.prog n all (⟨some d,.call { callee:=.value f,args:=args,argTypes:=ts },ty,pos,aft,none⟩::rest) env H K:=by
 have hl1:Hc.length=N:=by rw[<-hc];simp;omega
 refine TO.callD N hs hd hf ha hl (by simpa using hN) hc hu hb rfl hl1 hb (H':=H) (by rw[<-hc,List.take_append_drop,forceL_self]) ?_
 cases b
 ·exact k2 rfl
 ·exact k1 rfl
theorem TO.sees{h:Ch}{nm:Str}(hk:h.ok)(hd:Nat.ble (d+1) n=true)(ha:env.vals args.toList=some [.ref h.id 0,.s nm])(hH:H.take h.N=full p a q seen h)(hs:nm.length≤1000000000)
  (k1:nm∈h.vis->TO false Tryz.prog n all rest ((d,.b true)::env) H K)(k2:nm ∉ h.vis->TO false Tryz.prog n all rest ((d,.b false)::env) H K):
  TO false Tryz.prog n all (⟨some d,.call { callee:=.value (.func 170),args:=args,argTypes:=ts },ty,pos,aft,none⟩::rest) env H K:=by
 have hN:h.N≤H.length:=by have:=congrArg List.length hH;rw[Ch.len]at this;simp at this;omega
 refine TO.callDb h.N (sees_sound p a q seen h hk nm hs) hd rfl ha ⟨Le.refl _,Le.refl _,trivial⟩ hN hH ?_ (Ch.under h p a q seen) (fun hb=>k1 (by simpa using hb)) (fun hb=>k2 (by simpa using hb))
 cases h <;> rfl
theorem TO.defined{h:Ch}{nm:Str}(hk:h.ok)(hd:Nat.ble (d+1) n=true)(ha:env.vals args.toList=some [.ref h.id 0,.s nm])(hH:H.take h.N=full p a q seen h)(hs:nm.length≤1000000000)
  (k1:(nm∈h.low\/nm∈h.top.done)->TO false Tryz.prog n all rest ((d,.b true)::env) H K)(k2:¬(nm∈h.low\/nm∈h.top.done)->TO false Tryz.prog n all rest ((d,.b false)::env) H K):
  TO false Tryz.prog n all (⟨some d,.call { callee:=.value (.func 171),args:=args,argTypes:=ts },ty,pos,aft,none⟩::rest) env H K:=by
 have hN:h.N≤H.length:=by have:=congrArg List.length hH;rw[Ch.len]at this;simp at this;omega
 refine TO.callDb h.N (defined_sound p a q seen h hk nm hs) hd rfl ha ⟨Le.refl _,Le.refl _,trivial⟩ hN hH ?_ (Ch.under h p a q seen) (fun hb=>k1 (by simpa using hb)) (fun hb=>k2 (by simpa using hb))
 cases h <;> rfl
end
theorem wms{G Q:Prop}(k:Q)(h:Hold Q->G:=by
  intro k
  first
  | (apply Go.Proofs.YtlocalghkiepmaaGreat.TO.mustST;exact rfl;exact rfl;exact rfl;exact k.p)
  | (apply Go.Proofs.YtlocalghkiepmaaGreat.TO.mustSF;exact rfl;exact rfl;exact rfl;decide;exact k.p)
  | (apply Go.Proofs.YtlocalghkiepmaaGreat.TO.mustSF;exact rfl;exact rfl;exact rfl;assumption;exact k.p)):G:=h ⟨k⟩
abbrev SS (f:FuncId)(args:List SV)(p:Prog)(n q:Int)(seen:List (Int×Str×Int))(h h':Ch)(c:Int):Prop:=Sound Tryz.prog f (.ref 0 0::args) (full p n q seen h) (Err c (.tup []) (failS n q c) (full p n q seen h'))
theorem retS{rs:List ResultVar}{env:Env}{H H1:Heap}{n q c c':Int}{N:Nat}{v:SV}(h0:c'≠0)(hc:c'=c)(hN:N≤H.length):
  DeadK (RetK tab rs N (Err0 c v (failS n q c) H1 N)) (.panic (failS n q c')) env H:=by
 subst hc;exact DeadK.errP h0 hN (fun _=>rfl)
theorem retSN{env:Env}{H H1:Heap}{n q c:Int}{N:Nat}(hc:c=0)(hN:Nat.ble N H1.length=true)(hk:Nat.ble H1.length H.length=true)(ht:H.take H1.length=H1)(hb:blksUnder H1.length H1=true):
  DeadK (RetK tab [] N (Err0 c (.tup []) (failS n q c) H1 N)) .normal env H:=RetK.errN (vs:=[]) hc rfl (Le.refl _) hN hk rfl ht hb
def samplE(vis:List Str)(l:List Decl):Int:=firstE (fun d=>firstE (fun o:OnC=>if o.name∈vis then 0 else 6) d.clock) l
theorem name_decl{l:List Decl}{d:Decl}(h:d∈l):d.name.length<(declsT l).w/\(T.sl 3 (d.clock.map onT)).w<(declsT l).w:=by
 have:=w_inM (f:=declT) (sz:=3) h
 rw[show declT d= .ag (declC d) from rfl,w_ag]at this
 simp only[declC,List.map_cons,List.map_nil,List.sum_cons,List.sum_nil,w_s]at this
 have h2:(declsT l).w=(T.sl 3 (l.map declT)).w:=rfl
 omega
theorem name_on{l:List OnC}{o:OnC}(h:o∈l):o.name.length<(T.sl 3 (l.map onT)).w:=by
 have:=w_inM (f:=onT) (sz:=3) h
 rw[onT,w_ag]at this
 simp only[List.map_cons,List.map_nil,List.sum_cons,List.sum_nil,w_s]at this
 omega
theorem sampl_sound(p:Prog)(n q:Int)(seen:List (Int×Str×Int))(h:Ch)(hk:h.ok)(l:List Decl)(hw:(declsT l).w≤1000000000):SS 117 [.ref h.id 0,.t (declsT l)] p n q seen h h (samplE h.vis l):=by
 have hml:(l.map declT).length=l.length:=List.length_map _
 have hlb:l.length≤1000000000:=Nat.le_trans (Nat.le_of_lt (w_lenM declT 3 l)) hw
 unfold samplE
 refine Sound.err rfl (fun _=>rfl) ?_
 refine Sound.of tabOk Tryz.func117 (by kernel_rfl) rfl rfl ?_
 refine TR.dead ?_
 repeat' (first|refine wkt ?_|refine wk ?_|exact wkc|intro hc|refine wk2 ?_ ?_|fail)
 refine TR.loopN l.length (fun k=>firstE (fun d=>firstE (fun o:OnC=>if o.name∈h.vis then 0 else 6) d.clock) (l.take k)=0) (fun k=>[(0,.ref 0 0),(1,.ref h.id 0),(10,.t (declsT l)),(11,.i (l.map declT).length),(12,.i k)]) (fun _=>full p n q seen h) rfl (fun k hlt ha=>?_) (fun ha=>?_)
 ·have hx:=at_decl hlt
  have g1:=firstE_at (f:=fun d=>firstE (fun o:OnC=>if o.name∈h.vis then 0 else 6) d.clock) hlt ha
  have g2:=firstE_next (f:=fun d=>firstE (fun o:OnC=>if o.name∈h.vis then 0 else 6) d.clock) hlt ha
  have hwx:=(name_decl (List.getElem_mem hlt)).2
  generalize l[k]=x at*
  have hlc:=w_lenM onT 3 x.clock
  have hmo:(x.clock.map onT).length=x.clock.length:=List.length_map _
  unfold declC at hx
  repeat' (first|refine wkt ?_|refine wk ?_|exact wkc|intro hc|refine wk2 ?_ ?_|fail)
  refine TR.loopN x.clock.length (fun j=>firstE (fun o:OnC=>if o.name∈h.vis then 0 else 6) (x.clock.take j)=0) (fun j=>[(0,.ref 0 0),(1,.ref h.id 0),(10,.t (declsT l)),(11,.i (l.map declT).length),(12,.i k),(17,.t (.sl 3 (x.clock.map onT))),(18,.i (x.clock.map onT).length),(19,.i j)]) (fun _=>full p n q seen h) rfl (fun j hlt2 ha2=>?_) (fun ha2=>?_)
  ·have hx2:=at_on hlt2
   have f1:=firstE_at (f:=fun o:OnC=>if o.name∈h.vis then 0 else 6) hlt2 ha2
   have f2:=firstE_next (f:=fun o:OnC=>if o.name∈h.vis then 0 else 6) hlt2 ha2
   have hno:x.clock[j].name.length≤1000000000:=by have:=name_on (List.getElem_mem hlt2);omega
   generalize x.clock[j]=o at*
   repeat' (first|refine wkt ?_|refine wka ?_|refine wkD ?_|refine wk ?_|exact wkc|intro hc|refine wk2 ?_ ?_|(apply TO.setGet;exact rfl;exact rfl;exact rfl;exact rfl;assumption;assumption)|(apply TO.nilGet;exact rfl;exact rfl;exact rfl;assumption)|(apply TO.setPut;exact rfl;exact rfl;exact rfl;exact rfl;assumption;assumption;exact rfl)|refine wms ?_|(apply TO.sees hk;exact rfl;exact rfl;(first|exact rfl|exact Ch.tk _ _ _ _ _);assumption)|(apply TO.defined hk;exact rfl;exact rfl;(first|exact rfl|exact Ch.tk _ _ _ _ _);assumption)|fail|fail)
   ·exact LoopK.nextN hlt2 (f2 (by rw[if_pos hc]))
   ·((repeat' (first|refine LoopK.panic ?_|refine wk ?_|fail));apply retS;(first|assumption|decide);(clear hx;first|grind|grind [orE]);(first|exact Nat.le_of_ble_eq_true rfl|exact Nat.le_refl _|(simp[Ch.len];done)|(simp[Ch.len];omega)))
  ·have e1:=firstE_all ha2
   refine wk ?_
   repeat' (first|refine wkt ?_|refine wk ?_|exact wkc|intro hc|refine wk2 ?_ ?_|fail)
   exact LoopK.nextN hlt (g2 e1)
 ·have e1:=firstE_all ha
  repeat' (first|refine wkt ?_|refine wk ?_|exact wkc|intro hc|refine wk2 ?_ ?_|fail)
  exact retSN e1 (Ch.ble _ _ _ _ _) (Ch.ble _ _ _ _ _) (Ch.tkl _ _ _ _ _) (Ch.und _ _ _ _ _)
end Go.Proofs.YtlocalghkiepmaaGreat
