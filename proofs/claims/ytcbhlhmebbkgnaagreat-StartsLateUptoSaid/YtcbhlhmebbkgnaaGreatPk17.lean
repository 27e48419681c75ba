import Derived.DeepKeys5
import Derived.Lib.SliceRun
import Derived.Test.YtcbhlhmebbkgnaaGreatPk5
import Derived.Test.YtcbhlhmebbkgnaaGreatPk9
import Derived.Test.YtcbhlhmebbkgnaaGreatPk14
import Derived.Test.YtcbhlhmebbkgnaaGreatPk16
set_option linter.unusedSimpArgs false
set_option linter.unusedVariables false
namespace Go.Proofs.YtcbhlhmebbkgnaaGreat
open Go Go.TL
attribute [local irreducible] TR TO Then zaw RetK Sound zab Kf GG zaZ
theorem kStr:Maps.Keyed Tryz.prog 9:=Maps.string_keyed Tryz.underlying9
set_option maxRecDepth 100000 in
theorem kKey:Maps.Keyed Tryz.prog 145:=Maps.Keyed.of_law (deep_law_laid (m:=3) (by kernel_rfl) (by decide) (Nat.le_of_ble_eq_true (by kernel_rfl)) (by kernel_rfl) (by kernel_rfl))
theorem keyS{s:Str}(h:s.length≤1000000000):∃l,keyOf Tryz.prog 9 (str s)=some l:=by
 refine⟨.string s,?_⟩
 have:(⟨s.toArray⟩:ByteArray).size≤maxLen:=by
  show s.toArray.size≤maxLen
  simp[maxLen];omega
 simp[keyOf,Tryz.underlying9,mapKey,this]
abbrev keyV (k:Int)(s:Str):Value:=.agg #[.int .i64 k,str s]
theorem zvj:Tryz.prog.keyType 145=true:=by kernel_rfl
theorem zs3:Tryz.prog.cellsOf 145=2:=by kernel_rfl
theorem zrb:Tryz.prog.cellsOf 3=1:=by kernel_rfl
theorem zsJ:Tryz.prog.cellsOf 9=1:=by kernel_rfl
theorem zoK:∃N,Tryz.prog.types.size=N+1:=⟨Tryz.prog.types.size-1,by kernel_rfl⟩
theorem zsq(N:Nat){k:Int}{s:Str}(hw:(Lit.int .i64 k).wf=true)(hs:(⟨s.toArray⟩:ByteArray).size≤maxLen):
  (Tryz.prog.keyLits (N+1+1) 145 [.int .i64 k,str s])=some [.int .i64 k,.string s]:=by
 have e1:∀c,Tryz.prog.keyLits (N+1) 3 [c]=(match c with| .int q' n=>if q'= .i64/\(Lit.int .i64 n).wf=true then some [.int .i64 n] else none|_=>none):=fun c=>by
  unfold Program.keyLits
  simp only[Tryz.underlying3]
  cases c <;> rfl
 have e2:Tryz.prog.keyLits (N+1) 9 [str s]=some [.string s]:=by
  unfold Program.keyLits
  simp only[Tryz.underlying9]
  rw[if_pos hs]
 unfold Program.keyLits
 simp only[Tryz.underlying145,zs3]
 simp only[List.length_cons,List.length_nil,List.mapM_cons,List.mapM_nil,zrb,zsJ,List.drop_zero,List.take,List.drop,e1,e2,hw]
 simp
theorem keyK{k:Int}{s:Str}(hk:0≤k/\k≤2)(h:s.length≤1000000000):∃l,keyOf Tryz.prog 145 (keyV k s)=some l:=by
 have hs:(⟨s.toArray⟩:ByteArray).size≤maxLen:=by
  show s.toArray.size≤maxLen
  simp[maxLen];omega
 have hw:(Lit.int .i64 k).wf=true:=by
  simp only[Lit.wf,Bool.and_eq_true,decide_eq_true_eq]
  exact⟨by show(-9223372036854775808:Int)≤k;omega,by show k≤(9223372036854775807:Int);omega⟩
 have h5:(Value.agg #[.int .i64 k,str s]).formed Tryz.prog 145=true:=by
  simp only[Value.formed,Tryz.underlying145,zs3];rfl
 obtain⟨N,hN⟩:=zoK
 refine⟨.string (keyBytes [.int .i64 k,.string s]),?_⟩
 rw[keyOf,Tryz.underlying145]
 simp only[zvj,h5,hN,Value.cells,Bool.and_self,if_true,zsq N hw hs,Option.map_some]
def ins(l:List Str)(s:Str):List Str:=if s∈l then l else l++[s]
abbrev setB (l:List Str):Blk:=.map 9 4 (l.map fun s=>(str s,.v (.bool true)))
abbrev zch (l:List (Int×Str×Int)):Blk:=.map 145 3 (l.map fun e=>(keyV e.1 e.2.1,.v (.int .i64 e.2.2)))
structure za0 (l:List Str):Prop where
 nodup:l.Nodup
 short:∀s∈l,s.length≤1000000000
structure za4 (l:List (Int×Str×Int)):Prop where
 nodup:(l.map fun e=>(e.1,e.2.1)).Nodup
 short:∀e∈l,(0≤e.1/\e.1≤2)/\e.2.1.length≤1000000000
def zay(l:List (Int×Str×Int))(k:Int)(s:Str):Option Int:=(l.find? fun e=>decide (e.1=k/\e.2.1=s)).map fun e=>e.2.2
theorem str_inj{a b:Str}(h:str a=str b):a=b:=by
 simp only[str,Value.string.injEq,ByteArray.mk.injEq]at h
 simpa using h
theorem zom{k j:Int}{a b:Str}(h:keyV k a=keyV j b):k=j/\a=b:=by
 simp only[keyV,Value.agg.injEq,Array.mk.injEq,List.cons.injEq,Value.int.injEq,true_and,and_true]at h
 exact⟨h.1,str_inj h.2⟩
theorem za0.nil:za0 []:=⟨List.nodup_nil,by simp⟩
theorem za0.ins{l:List Str}{s:Str}(h:za0 l)(hs:s.length≤1000000000):za0 (ins l s):=by
 unfold Go.Proofs.YtcbhlhmebbkgnaaGreat.ins
 split
 ·exact h
 ·rename_i hn
  refine⟨List.nodup_append.2 ⟨h.nodup,by simp,fun a ha b hb e=>?_⟩,fun x hx=>?_⟩
  ·simp at hb;subst hb;subst e;exact hn ha
  ·simp at hx;rcases hx with hx|rfl
   ·exact h.short x hx
   ·exact hs
theorem za0.keys{l:List Str}(h:za0 l):zjS Tryz.prog 9 (l.map fun s=>(str s,.v (.bool true))):=by
 intro j e he
 rw[List.getElem?_map]at he
 cases hq:l[j]? with
 | none=>rw[hq]at he;cases he
 | some s=>rw[hq]at he;cases he;exact keyS (h.short s (List.mem_of_getElem? hq))
theorem za4.nil:za4 []:=⟨List.nodup_nil,by simp⟩
theorem za4.keys{l:List (Int×Str×Int)}(h:za4 l):zjS Tryz.prog 145 (l.map fun e=>(keyV e.1 e.2.1,.v (.int .i64 e.2.2))):=by
 intro j e he
 rw[List.getElem?_map]at he
 cases hq:l[j]? with
 | none=>rw[hq]at he;cases he
 | some s=>rw[hq]at he;cases he;have:=h.short s (List.mem_of_getElem? hq);exact keyK this.1 this.2
theorem za4.add{l:List (Int×Str×Int)}{k v:Int}{s:Str}(h:za4 l)(hk:0≤k/\k≤2)(hs:s.length≤1000000000)(hn:zay l k s=none):za4 (l++[(k,s,v)]):=by
 refine⟨?_,fun e he=>?_⟩
 ·rw[List.map_append]
  refine List.nodup_append.2 ⟨h.nodup,by simp,fun a ha b hb e=>?_⟩
  simp at hb;subst hb;subst e
  obtain⟨e,he,heq⟩:=List.mem_map.1 ha
  simp only[zay,Option.map_eq_none_iff,List.find?_eq_none,decide_eq_true_eq]at hn
  simp only[Prod.mk.injEq]at heq
  exact hn e he heq
 ·simp at he;rcases he with he|rfl
  ·exact h.short e he
  ·exact⟨hk,hs⟩
theorem zmL{l:List Str}(h:za0 l)(s:Str):zoL (l.map fun s=>(str s,T.v (.bool true))) (str s) (if s∈l then some (.v (.bool true)) else none):=by
 by_cases hm:s∈l
 ·rw[if_pos hm]
  obtain⟨j,hj⟩:=List.getElem?_of_mem hm
  refine⟨j,by simp[hj],fun j' t' h'=>?_⟩
  rw[List.getElem?_map]at h'
  cases hq:l[j']? with
  | none=>rw[hq]at h';cases h'
  | some x=>
    rw[hq]at h'
    simp only[Option.map_some,Option.some.injEq,Prod.mk.injEq]at h'
    have:=str_inj h'.1
    subst this
    exact(List.getElem?_inj (List.getElem?_eq_some_iff.1 hq).1 h.nodup).1 (hq.trans hj.symm)
 ·rw[if_neg hm]
  intro j e he e2
  rw[List.getElem?_map]at he
  cases hq:l[j]? with
  | none=>rw[hq]at he;cases he
  | some x=>
    rw[hq]at he;cases he
    have:=str_inj e2
    subst this
    exact hm (List.mem_of_getElem? hq)
theorem ztK{l:List Str}(h:za0 l)(s:Str):zs8 (l.map fun s=>(str s,T.v (.bool true))) (str s) (.v (.bool true)) ((ins l s).map fun s=>(str s,T.v (.bool true))):=by
 have hg:=zmL h s
 unfold ins
 by_cases hm:s∈l
 ·rw[if_pos hm]at hg⊢
  obtain⟨j,hj,hu⟩:=hg
  refine .inl ⟨j,_,hj,hu,?_⟩
  have hlt:=(List.getElem?_eq_some_iff.1 hj)
  conv=>rhs;rw[<-hlt.2]
  rw[List.set_getElem_self]
 ·rw[if_neg hm]at hg⊢
  exact .inr ⟨hg,by simp⟩
theorem zoJ{l:List (Int×Str×Int)}(h:za4 l)(k:Int)(s:Str):zoL (l.map fun e=>(keyV e.1 e.2.1,T.v (.int .i64 e.2.2))) (keyV k s) ((zay l k s).map fun v=>.v (.int .i64 v)):=by
 unfold zay
 cases hf:l.find? (fun e=>decide (e.1=k/\e.2.1=s)) with
 | none=>
   rw[List.find?_eq_none]at hf
   intro j e he e2
   rw[List.getElem?_map]at he
   cases hq:l[j]? with
   | none=>rw[hq]at he;cases he
   | some x=>
     rw[hq]at he;cases he
     exact hf x (List.mem_of_getElem? hq) (by simpa using zom e2)
 | some e=>
   have hm:=List.mem_of_find?_eq_some hf
   have hp:=List.find?_some hf
   simp only[decide_eq_true_eq]at hp
   obtain⟨j,hj⟩:=List.getElem?_of_mem hm
   refine⟨j,by simp[hj,hp.1,hp.2],fun j' t' h'=>?_⟩
   rw[List.getElem?_map]at h'
   cases hq:l[j']? with
   | none=>rw[hq]at h';cases h'
   | some x=>
     rw[hq]at h'
     simp only[Option.map_some,Option.some.injEq,Prod.mk.injEq]at h'
     have h1:=zom h'.1
     have e1:(l.map fun e=>(e.1,e.2.1))[j']?=some (k,s):=by simp[hq,h1.1,h1.2]
     have e2:(l.map fun e=>(e.1,e.2.1))[j]?=some (k,s):=by simp[hj,hp.1,hp.2]
     exact(List.getElem?_inj (List.getElem?_eq_some_iff.1 e1).1 h.nodup).1 (e1.trans e2.symm)
theorem zq9{k:Int}{s:Str}{m:M}{v:Value}(h:SRel m (.t (.ag [.i k,.s s])) v):v=keyV k s:=by
 cases h with
 | t _ _ h=>
   cases h with
   | ag _ arr hs h1 h2=>
     obtain⟨l⟩:=arr
     match l,hs with
     | [a,b],_=>
       have ha:=h2 0 _ a rfl rfl
       have hb:=h2 1 _ b rfl rfl
       cases ha;cases hb
       rfl
section
variable {n:Nat}{env:Env}{K:TK}{all:Array Oper}{rest:List Oper}{d id:Nat}{ty:TypeId}{pos:String}{aft:Array Edge}{H:Heap}{x y w:Operand}{q:Bool}
theorem TO.zer{l:List Str}{s:Str}(hd:Nat.ble (d+1) n=true)(hx:env.val x=some (.mp id))(hH:H[id]?=some (setB l))(hy:env.val y=some (.s s))(hl:za0 l)(hs:s.length≤1000000000)
  (k1:s∈l->TO q Tryz.prog n all rest ((d,.b true)::env) H K)(k2:s ∉ l->TO q Tryz.prog n all rest ((d,.b false)::env) H K):
  TO q Tryz.prog n all (⟨some d,.lookup 61 x y false,ty,pos,aft,none⟩::rest) env H K:=by
 refine TO.lookup zam hd rfl rfl rfl rfl rfl kStr hx hH hl.keys hy (kx:=str s) (fun m v h=>h.v_eq) (keyS hs) (zmL hl s) ?_
 by_cases hm:s∈l
 ·rw[if_pos hm];exact k1 hm
 ·rw[if_neg hm];exact k2 hm
theorem TO.zjP{s:Str}(hd:Nat.ble (d+1) n=true)(hx:env.val x=some (.t (.v (.map none))))(hy:env.val y=some (.s s))(hs:s.length≤1000000000)(k:TO q Tryz.prog n all rest ((d,.b false)::env) H K):
  TO q Tryz.prog n all (⟨some d,.lookup 61 x y false,ty,pos,aft,none⟩::rest) env H K:=
 TO.lookup_nil zam hd rfl rfl rfl rfl rfl kStr hx hy (kx:=str s) (fun m v h=>h.v_eq) (keyS hs) k
theorem TO.zp3{l:List Str}{s:Str}{H':Heap}(hx:env.val x=some (.mp id))(hH:H[id]?=some (setB l))(hy:env.val y=some (.s s))(hw:env.val w=some (.b true))(hl:za0 l)(hs:s.length≤1000000000)
  (hH':setS H id (setB (ins l s))=some H')(k:TO false Tryz.prog n all rest env H' K):
  TO false Tryz.prog n all (⟨none,.mapUpdate 61 x y w,ty,pos,aft,none⟩::rest) env H K:=
 TO.mapUpdate zam rfl rfl kStr hx hH hl.keys hy (kx:=str s) (fun m v h=>h.v_eq) (keyS hs) hw rfl (ztK hl s) (zlc hH').symm k
theorem TO.zkd{l:List (Int×Str×Int)}{s:Str}{k:Int}(hd:Nat.ble (d+1) n=true)(hx:env.val x=some (.mp id))(hH:H[id]?=some (zch l))(hy:env.val y=some (.t (.ag [.i k,.s s])))(hl:za4 l)(hk:0≤k/\k≤2)(hs:s.length≤1000000000)
  (k1:∀v,zay l k s=some v->TO q Tryz.prog n all rest ((d,.tup [.i v,.b true])::env) H K)(k2:zay l k s=none->TO q Tryz.prog n all rest ((d,.tup [.i 0,.b false])::env) H K):
  TO q Tryz.prog n all (⟨some d,.lookup 140 x y true,ty,pos,aft,none⟩::rest) env H K:=by
 refine TO.lookup zam hd rfl rfl rfl rfl rfl kKey hx hH hl.keys hy (kx:=keyV k s) (fun m v h=>zq9 h) (keyK hk hs) (zoJ hl k s) ?_
 cases hg:zay l k s with
 | none=>exact k2 hg
 | some v=>exact k1 v hg
theorem TO.zty{l:List (Int×Str×Int)}{s:Str}{k v:Int}{H':Heap}(hx:env.val x=some (.mp id))(hH:H[id]?=some (zch l))(hy:env.val y=some (.t (.ag [.i k,.s s])))(hw:env.val w=some (.i v))(hl:za4 l)(hn:zay l k s=none)(hk:0≤k/\k≤2)(hs:s.length≤1000000000)
  (hH':setS H id (zch (l++[(k,s,v)]))=some H')(kk:TO false Tryz.prog n all rest env H' K):
  TO false Tryz.prog n all (⟨none,.mapUpdate 140 x y w,ty,pos,aft,none⟩::rest) env H K:=by
 have hg:=zoJ hl k s
 rw[hn]at hg
 exact TO.mapUpdate zam rfl rfl kKey hx hH hl.keys hy (kx:=keyV k s) (fun m v h=>zq9 h) (keyK hk hs) hw rfl (.inr ⟨hg,by rw[List.map_append];rfl⟩) (zlc hH').symm kk
end
end Go.Proofs.YtcbhlhmebbkgnaaGreat
namespace Go.Proofs.YtcbhlhmebbkgnaaGreat
open Go Go.TL
attribute [local irreducible] TR TO Then zaw RetK Sound zab Kf GG zaZ
structure Lv where
 own:List Str
 done:List Str
 defs:List Str
structure Lv.ok (a:Lv):Prop where
 own:za0 a.own
 done:za0 a.done
inductive Ch where
 | one (a:Lv)
 | c1 (i:List Str) (a:Lv)
 | c2 (i:List Str) (a b:Lv)
 | c3 (i:List Str) (a b c:Lv)
 | c4 (i:List Str) (a b c d:Lv)
abbrev nilP:SV:=.t (.v (.pointer none))
abbrev nilM:SV:=.t (.v (.map none))
abbrev nilS:SV:=.t (.v (.slice none 0 0))
abbrev rowB (l:List Str):Blk:=.row 9 (l.map T.s)
abbrev nmB (up:SV)(b:Nat)(inp:SV)(a:Lv):Blk:=.cells [up,.mp b,.mp (b+1),inp,.rw (b+3) (a.defs.map T.s).length]
abbrev lkB (p:Prog)(n q:Int):Blk:=.cells [.t (.sl 2 (p.enums.map enT)),.t (zag p.nodes),.i n,.i q,.mp 1]
namespace Ch
def vis0:Ch->List Str
 | one _=>[]|c1 _ _=>[]|c2 _ a _=>a.own|c3 _ a b _=>a.own++b.own|c4 _ a b c _=>a.own++b.own++c.own
def top:Ch->Lv
 | one a=>a|c1 _ a=>a|c2 _ _ b=>b|c3 _ _ _ c=>c|c4 _ _ _ _ d=>d
def low:Ch->List Str
 | one _=>[]|c1 i _=>i|c2 i a _=>i++a.done|c3 i a b _=>i++a.done++b.done|c4 i a b c _=>i++a.done++b.done++c.done
def set:Ch->Lv->Ch
 | one _,x=>one x|c1 i _,x=>c1 i x|c2 i a _,x=>c2 i a x|c3 i a b _,x=>c3 i a b x|c4 i a b c _,x=>c4 i a b c x
def vis(h:Ch):List Str:=h.vis0++h.top.own
def id:Ch->Nat
 | one _=>4|c1 .. =>4|c2 .. =>9|c3 .. =>13|c4 .. =>17
def N:Ch->Nat
 | one _=>5|c1 .. =>7|c2 .. =>11|c3 .. =>15|c4 .. =>19
def heap:Ch->Heap
 | one a=>[setB a.own,setB a.done,.cells [nilP,.mp 2,.mp 3,nilM,nilS]]
 | c1 i a=>[setB a.own,setB a.done,nmB nilP 2 (.mp 6) a,rowB a.defs,setB i]
 | c2 i a b=>[setB a.own,setB a.done,nmB nilP 2 (.mp 6) a,rowB a.defs,setB i,setB b.own,setB b.done,nmB (.ref 4 0) 7 nilM b,rowB b.defs]
 | c3 i a b c=>[setB a.own,setB a.done,nmB nilP 2 (.mp 6) a,rowB a.defs,setB i,setB b.own,setB b.done,nmB (.ref 4 0) 7 nilM b,rowB b.defs,setB c.own,setB c.done,nmB (.ref 9 0) 11 nilM c,rowB c.defs]
 | c4 i a b c d=>[setB a.own,setB a.done,nmB nilP 2 (.mp 6) a,rowB a.defs,setB i,setB b.own,setB b.done,nmB (.ref 4 0) 7 nilM b,rowB b.defs,setB c.own,setB c.done,nmB (.ref 9 0) 11 nilM c,rowB c.defs,setB d.own,setB d.done,nmB (.ref 13 0) 15 nilM d,rowB d.defs]
def ok:Ch->Prop
 | one a=>a.ok|c1 i a=>za0 i/\a.ok|c2 i a b=>za0 i/\a.ok/\b.ok|c3 i a b c=>za0 i/\a.ok/\b.ok/\c.ok|c4 i a b c d=>za0 i/\a.ok/\b.ok/\c.ok/\d.ok
end Ch
def Ch.push:Ch->Lv->Ch
 | .c1 i a,x=>.c2 i a x| .c2 i a b,x=>.c3 i a b x| .c3 i a b c,x=>.c4 i a b c x|h,_=>h
theorem Ch.lt{P:Ch->Prop}(k:∀h,let g:=h;P g):∀h,P h:=k
abbrev full (p:Prog)(n q:Int)(seen:List (Int×Str×Int))(h:Ch):Heap:=lkB p n q::zch seen::h.heap
theorem retV{rs:List ResultVar}{env:Env}{H:Heap}{v v':SV}(hr:zca tab env H rs=some [v'])(hv:v'=v)(hu:v.under H.length=true)(hb:zaf H.length H=true):
  RetK tab rs H.length (fun r H'=>r= .ret v/\H'=H) .ret env H:=RetK.at H.length hr (by subst hv;exact Le.refl _) (Nat.le_refl _) rfl hu hb ⟨rfl,rfl⟩
theorem bsv{a b:Bool}(h:a=b):SV.b a=SV.b b:=by rw[h]
theorem zpy(p:Prog)(n q:Int)(seen:List (Int×Str×Int))(h:Ch)(hk:h.ok)(nm:Str)(hs:nm.length≤1000000000):
  Sound Tryz.prog 185 [.ref h.id 0,.s nm] (full p n q seen h) (fun r H'=>r= .ret (.b (decide (nm∈h.vis)))/\H'=full p n q seen h):=by
 cases h
 all_goals
  first
  | have a1:=hk.own
  | have a1:=hk.2.own
  | have a1:=hk.2.1.own;have b1:=hk.2.2.own
  | have a1:=hk.2.1.own;have b1:=hk.2.2.1.own;have c1:=hk.2.2.2.own
  | have a1:=hk.2.1.own;have b1:=hk.2.2.1.own;have c1:=hk.2.2.2.1.own;have d1:=hk.2.2.2.2.own
  simp only[full,Ch.heap,Ch.id,Ch.vis,Ch.vis0,Ch.top]
  refine so Tryz.func185 ?_
  repeat' (first|refine wkt ?_|refine wka ?_|refine wk ?_|exact wkc|intro hc|refine wk2 ?_ ?_|(apply TO.zer;(iterate 4 exact rfl);assumption;assumption)|(apply TO.zjP;(iterate 3 exact rfl);assumption)|(apply TO.zgM zam;(iterate 5 exact rfl))|(apply TO.zgH zam;(iterate 4 exact rfl))|refine TR.loop ?_|refine Then.normal ?_|refine Then.exit ?_|refine Then.ret ?_|fail)
  all_goals exact retV rfl (bsv (by simp_all)) rfl rfl
theorem zlk(p:Prog)(n q:Int)(seen:List (Int×Str×Int))(h:Ch)(hk:h.ok)(nm:Str)(hs:nm.length≤1000000000):
  Sound Tryz.prog 186 [.ref h.id 0,.s nm] (full p n q seen h) (fun r H'=>r= .ret (.b (decide (nm∈h.low\/nm∈h.top.done)))/\H'=full p n q seen h):=by
 cases h
 all_goals
  first
  | have a1:=hk.done
  | have a1:=hk.2.done
  | have a1:=hk.2.1.done;have b1:=hk.2.2.done
  | have a1:=hk.2.1.done;have b1:=hk.2.2.1.done;have c1:=hk.2.2.2.done
  | have a1:=hk.2.1.done;have b1:=hk.2.2.1.done;have c1:=hk.2.2.2.1.done;have d1:=hk.2.2.2.2.done
  have i1:=hk.1
  simp only[full,Ch.heap,Ch.id,Ch.low,Ch.top]
  refine so Tryz.func186 ?_
  repeat' (first|refine wkt ?_|refine wka ?_|refine wk ?_|exact wkc|intro hc|refine wk2 ?_ ?_|(apply TO.zer;(iterate 4 exact rfl);assumption;assumption)|(apply TO.zjP;(iterate 3 exact rfl);assumption)|(apply TO.zgM zam;(iterate 5 exact rfl))|(apply TO.zgH zam;(iterate 4 exact rfl))|refine TR.loop ?_|refine Then.normal ?_|refine Then.exit ?_|refine Then.ret ?_|fail)
  all_goals exact retV rfl (bsv (by simp_all)) rfl rfl
end Go.Proofs.YtcbhlhmebbkgnaaGreat
namespace Go.TL
open Go
def zf3(K:TK):TK
 | .panic v,env,H=>K (.panic v) env (List.replicate H.length .dead)
 | e,env,H=>K e env H
section rules
variable {P:Program}{n:Nat}{env:Env}{H:Heap}{K:TK}
theorem Post.dead{φ:Fm}{m:M}{e:Exit}{a:Act}{w:World}(h:Post φ m n (zf3 K) e a w):Post φ m n K e a w:=by
 obtain⟨m2,env2,te,rfl,s,hm,he,hd,hx,hk⟩:=h
 cases te with
 | normal=>exact⟨m2,env2,.normal,rfl,s,hm,he,hd,hx,hk⟩
 | exit i=>exact⟨m2,env2,.exit i,rfl,s,hm,he,hd,hx,hk⟩
 | ret=>exact⟨m2,env2,.ret,rfl,s,hm,he,hd,hx,hk⟩
 | panic v=>
   obtain⟨s1,hm1⟩:=zrp hm
   refine⟨⟨m2.A,m2.β,m2.H.map fun _=>.dead,m2.w⟩,env2,.panic v,rfl,s.trans s1,hm1,he.step hm s1,hd,?_,?_⟩
   ·cases e with
    | panic ch=>obtain⟨x,x1,x2⟩:=hx;exact⟨x,x1,s1.srel hm x2⟩
    | _=>simp[zbM]at hx
   ·show K (.panic v) env2 (m2.H.map fun _=>Blk.dead)
    rw[List.map_const'];exact hk
theorem TR.dead{c:Code}(h:TR P n c env H (zf3 K)):TR P n c env H K:=
 fun φ m a h1 h2 h3 h4=>zbA (h φ m a h1 h2 h3 h4) fun _ _ _ hp=>hp.dead
theorem zf3.normal(h:K .normal env H):zf3 K .normal env H:=h
theorem zf3.ret(h:K .ret env H):zf3 K .ret env H:=h
theorem zf3.errP{tab:Tab}{rs:List ResultVar}{N:Nat}{c:Int}{v pv:SV}{H1:Heap}(hc:c≠0)(hN:N≤H.length)(hu:∀k,pv.under k=true):zf3 (RetK tab rs N (Err0 c v pv H1 N)) (.panic pv) env H:=
 RetK.errP (tab:=tab) (rs:=rs) (N:=N) (env:=env) (H:=List.replicate H.length .dead) hc (by simpa using hN) (hu _) (by rw[List.length_replicate];exact zcH _ _)
end rules
end Go.TL
namespace Go.Proofs.YtcbhlhmebbkgnaaGreat
open Go Go.TL
attribute [local irreducible] TR TO Then zaw RetK Sound zab Kf GG zaZ
abbrev zcA (n q c:Int):SV:=.ifc 137 (.t (.ag [T.i n,T.i q,T.i c]))
theorem zr6(p:Prog)(n q:Int)(seen:List (Int×Str×Int))(e:Int):Sound Tryz.prog 143 [.ref 0 0,.b true,.i e] [lkB p n q,zch seen] (fun r H'=>r= .ret (.tup [])/\H'=[lkB p n q,zch seen]):=by
 refine so Tryz.func143 ?_
 repeat' (first|refine wu ?_|exact wkc|intro hc|refine wk2 ?_ ?_|fail)
 exact RetK.zuT 2 (vs:=[]) rfl (Le.refl _) rfl rfl rfl rfl rfl ⟨rfl,rfl⟩
theorem zrB(p:Prog)(n q:Int)(seen:List (Int×Str×Int))(e:Int)(he:e≠0):Sound Tryz.prog 143 [.ref 0 0,.b false,.i e] [lkB p n q,zch seen] (Err e (.tup []) (zcA n q e) [lkB p n q,zch seen]):=by
 refine Sound.err rfl (fun _=>rfl) ?_
 refine so Tryz.func143 ?_
 repeat' (first|refine wu ?_|exact wkc|intro hc|refine wk2 ?_ ?_|(apply TO.makeInterface;exact rfl;kernel_rfl;exact rfl)|(apply TO.panic;exact rfl)|fail)
 exact RetK.errP he rfl rfl rfl
theorem Ch.len(h:Ch)(p:Prog)(n q:Int)(seen:List (Int×Str×Int)):(full p n q seen h).length=h.N:=by cases h <;> rfl
theorem Ch.under(h:Ch)(p:Prog)(n q:Int)(seen:List (Int×Str×Int)):zaf h.N (full p n q seen h)=true:=by cases h <;> rfl
theorem Ch.ge(h:Ch):5≤h.N:=by cases h <;> simp[Ch.N]
theorem Ch.tk(h:Ch)(p:Prog)(n q:Int)(seen:List (Int×Str×Int)):(full p n q seen h).take h.N=full p n q seen h:=List.take_of_length_le (by rw[Ch.len];exact Nat.le_refl _)
theorem Ch.tkl(h:Ch)(p:Prog)(n q:Int)(seen:List (Int×Str×Int)):(full p n q seen h).take (full p n q seen h).length=full p n q seen h:=List.take_of_length_le (Nat.le_refl _)
theorem Ch.und(h:Ch)(p:Prog)(n q:Int)(seen:List (Int×Str×Int)):zaf (full p n q seen h).length (full p n q seen h)=true:=by rw[Ch.len];exact Ch.under h p n q seen
theorem Ch.ble(h:Ch)(p:Prog)(n q:Int)(seen:List (Int×Str×Int)):Nat.ble (full p n q seen h).length (full p n q seen h).length=true:=by simp
section
variable {n:Nat}{env:Env}{K:TK}{all:Array Oper}{rest:List Oper}{d:Nat}{ty:TypeId}{pos:String}{aft:Array Edge}{p:Prog}{a q e:Int}{seen:List (Int×Str×Int)}{H Hr:Heap}{args:Array Operand}{ts:Array TypeId}
theorem TO.zuz(hd:Nat.ble (d+1) n=true)(ha:env.vals args.toList=some [.ref 0 0,.b true,.i e])(h1:H=lkB p a q::zch seen::Hr)(k:TO false Tryz.prog n all rest ((d,.tup [])::env) H K):
  TO false Tryz.prog n all (⟨some d,.call { callee:=.value (.func 143),args:=args,argTypes:=ts },ty,pos,aft,none⟩::rest) env H K:=by
 subst h1
 exact TO.zkD 2 (zr6 p a q seen e) hd rfl ha ⟨Le.refl _,Le.refl _,Le.refl _,trivial⟩ (by simp) rfl rfl rfl rfl rfl rfl (by simp[zbv]) k
theorem TO.zs9(hd:Nat.ble (d+1) n=true)(ha:env.vals args.toList=some [.ref 0 0,.b false,.i e])(h1:H=lkB p a q::zch seen::Hr)(he:e≠0)(k:K (.panic (zcA a q e)) env (.dead:: .dead::Hr)):
  TO false Tryz.prog n all (⟨some d,.call { callee:=.value (.func 143),args:=args,argTypes:=ts },ty,pos,aft,none⟩::rest) env H K:=by
 subst h1
 exact TO.zlw 2 (zrB p a q seen e he) hd rfl ha ⟨Le.refl _,Le.refl _,Le.refl _,trivial⟩ (by simp) rfl rfl rfl rfl rfl rfl rfl (by simp[zbv];rfl) (fun h=>absurd h he) (fun _=>k)
theorem TO.zem(N:Nat){Hc:Heap}{cargs:List SV}{b:Bool}{f:Operand}{fid:FuncId}{caps:List SV}{vs:List SV}
  (hs:Sound Tryz.prog fid cargs Hc fun r H'=>r= .ret (.b b)/\H'=Hc)(hd:Nat.ble (d+1) n=true)(hf:env.val f=some (.fn fid caps))(ha:env.vals args.toList=some vs)(hl:Les (vs++caps) cargs)
  (hN:N≤H.length)(hc:H.take N=Hc)(hu:unders N cargs=true)(hb:zaf N Hc=true)
  (k1:b=true->TO false Tryz.prog n all rest ((d,.b true)::env) H K)(k2:b=false->TO false Tryz.prog n all rest ((d,.b false)::env) H K):
  TO false Tryz.prog n all (⟨some d,.call { callee:=.value f,args:=args,argTypes:=ts },ty,pos,aft,none⟩::rest) env H K:=by
 have hl1:Hc.length=N:=by rw[<-hc];simp;omega
 refine TO.zkD N hs hd hf ha hl (by simpa using hN) hc hu hb rfl hl1 hb (H':=H) (by rw[<-hc,List.take_append_drop,zbv]) ?_
 cases b
 ·exact k2 rfl
 ·exact k1 rfl
theorem TO.sees{h:Ch}{nm:Str}(hk:h.ok)(hd:Nat.ble (d+1) n=true)(ha:env.vals args.toList=some [.ref h.id 0,.s nm])(hH:H.take h.N=full p a q seen h)(hs:nm.length≤1000000000)
  (k1:nm∈h.vis->TO false Tryz.prog n all rest ((d,.b true)::env) H K)(k2:nm ∉ h.vis->TO false Tryz.prog n all rest ((d,.b false)::env) H K):
  TO false Tryz.prog n all (⟨some d,.call { callee:=.value (.func 185),args:=args,argTypes:=ts },ty,pos,aft,none⟩::rest) env H K:=by
 have hN:h.N≤H.length:=by have:=congrArg List.length hH;rw[Ch.len]at this;simp at this;omega
 refine TO.zem h.N (zpy p a q seen h hk nm hs) hd rfl ha ⟨Le.refl _,Le.refl _,trivial⟩ hN hH ?_ (Ch.under h p a q seen) (fun hb=>k1 (by simpa using hb)) (fun hb=>k2 (by simpa using hb))
 cases h <;> rfl
theorem TO.defined{h:Ch}{nm:Str}(hk:h.ok)(hd:Nat.ble (d+1) n=true)(ha:env.vals args.toList=some [.ref h.id 0,.s nm])(hH:H.take h.N=full p a q seen h)(hs:nm.length≤1000000000)
  (k1:(nm∈h.low\/nm∈h.top.done)->TO false Tryz.prog n all rest ((d,.b true)::env) H K)(k2:¬(nm∈h.low\/nm∈h.top.done)->TO false Tryz.prog n all rest ((d,.b false)::env) H K):
  TO false Tryz.prog n all (⟨some d,.call { callee:=.value (.func 186),args:=args,argTypes:=ts },ty,pos,aft,none⟩::rest) env H K:=by
 have hN:h.N≤H.length:=by have:=congrArg List.length hH;rw[Ch.len]at this;simp at this;omega
 refine TO.zem h.N (zlk p a q seen h hk nm hs) hd rfl ha ⟨Le.refl _,Le.refl _,trivial⟩ hN hH ?_ (Ch.under h p a q seen) (fun hb=>k1 (by simpa using hb)) (fun hb=>k2 (by simpa using hb))
 cases h <;> rfl
end
theorem wms{G Q:Prop}(k:Q)(h:Hold Q->G:=by
  intro k
  first
  | (apply Go.Proofs.YtcbhlhmebbkgnaaGreat.TO.zuz;(iterate 3 exact rfl);exact k.p)
  | (apply Go.Proofs.YtcbhlhmebbkgnaaGreat.TO.zs9;(iterate 3 exact rfl);decide;exact k.p)
  | (apply Go.Proofs.YtcbhlhmebbkgnaaGreat.TO.zs9;(iterate 3 exact rfl);assumption;exact k.p)):G:=h ⟨k⟩
abbrev SS (f:FuncId)(args:List SV)(p:Prog)(n q:Int)(seen:List (Int×Str×Int))(h h':Ch)(c:Int):Prop:=Sound Tryz.prog f (.ref 0 0::args) (full p n q seen h) (Err c (.tup []) (zcA n q c) (full p n q seen h'))
theorem retS{rs:List ResultVar}{env:Env}{H H1:Heap}{n q c c':Int}{N:Nat}{v:SV}(h0:c'≠0)(hc:c'=c)(hN:N≤H.length):
  zf3 (RetK tab rs N (Err0 c v (zcA n q c) H1 N)) (.panic (zcA n q c')) env H:=by
 subst hc;exact zf3.errP h0 hN (fun _=>rfl)
theorem zkK{env:Env}{H H1:Heap}{n q c:Int}{N:Nat}(hc:c=0)(hN:Nat.ble N H1.length=true)(hk:Nat.ble H1.length H.length=true)(ht:H.take H1.length=H1)(hb:zaf H1.length H1=true):
  zf3 (RetK tab [] N (Err0 c (.tup []) (zcA n q c) H1 N)) .normal env H:=RetK.errN (vs:=[]) hc rfl (Le.refl _) hN hk rfl ht hb
def zbn(vis:List Str)(l:List Decl):Int:=zaa (fun d=>zaa (fun o:OnC=>if o.name∈vis then 0 else 6) d.clock) l
theorem za6{l:List Decl}{d:Decl}(h:d∈l):d.name.length<(zac l).w/\(T.sl 3 (d.clock.map onT)).w<(zac l).w:=by
 have:=zaC (f:=zah) (sz:=3) h
 rw[show zah d= .ag (zb4 d) from rfl,w_ag]at this
 simp only[zb4,List.map_cons,List.map_nil,List.sum_cons,List.sum_nil,w_s]at this
 have h2:(zac l).w=(T.sl 3 (l.map zah)).w:=rfl
 omega
theorem zpP{l:List OnC}{o:OnC}(h:o∈l):o.name.length<(T.sl 3 (l.map onT)).w:=by
 have:=zaC (f:=onT) (sz:=3) h
 rw[onT,w_ag]at this
 simp only[List.map_cons,List.map_nil,List.sum_cons,List.sum_nil,w_s]at this
 omega
theorem zhU(p:Prog)(n q:Int)(seen:List (Int×Str×Int))(h:Ch)(hk:h.ok)(l:List Decl)(hw:(zac l).w≤1000000000):SS 146 [.ref h.id 0,.t (zac l)] p n q seen h h (zbn h.vis l):=by
 have hml:(l.map zah).length=l.length:=List.length_map _
 have hlb:l.length≤1000000000:=Nat.le_trans (Nat.le_of_lt (zaq zah 3 l)) hw
 unfold zbn
 refine Sound.err rfl (fun _=>rfl) ?_
 refine so Tryz.func146 ?_
 refine TR.dead ?_
 repeat' (first|refine wu ?_|exact wkc|intro hc|refine wk2 ?_ ?_|fail)
 refine TR.zal l.length (fun k=>zaa (fun d=>zaa (fun o:OnC=>if o.name∈h.vis then 0 else 6) d.clock) (l.take k)=0) (fun k=>[(0,.ref 0 0),(1,.ref h.id 0),(10,.t (zac l)),(11,.i (l.map zah).length),(12,.i k)]) (fun _=>full p n q seen h) rfl (fun k hlt ha=>?_) (fun ha=>?_)
 ·have hx:=zbh hlt
  have g1:=zan (f:=fun d=>zaa (fun o:OnC=>if o.name∈h.vis then 0 else 6) d.clock) hlt ha
  have g2:=zai (f:=fun d=>zaa (fun o:OnC=>if o.name∈h.vis then 0 else 6) d.clock) hlt ha
  have hwx:=(za6 (List.getElem_mem hlt)).2
  generalize l[k]=x at*
  have hlc:=zaq onT 3 x.clock
  have hmo:(x.clock.map onT).length=x.clock.length:=List.length_map _
  unfold zb4 at hx
  repeat' (first|refine wu ?_|exact wkc|intro hc|refine wk2 ?_ ?_|fail)
  refine TR.zal x.clock.length (fun j=>zaa (fun o:OnC=>if o.name∈h.vis then 0 else 6) (x.clock.take j)=0) (fun j=>[(0,.ref 0 0),(1,.ref h.id 0),(10,.t (zac l)),(11,.i (l.map zah).length),(12,.i k),(17,.t (.sl 3 (x.clock.map onT))),(18,.i (x.clock.map onT).length),(19,.i j)]) (fun _=>full p n q seen h) rfl (fun j hlt2 ha2=>?_) (fun ha2=>?_)
  ·have hx2:=zmR hlt2
   have f1:=zan (f:=fun o:OnC=>if o.name∈h.vis then 0 else 6) hlt2 ha2
   have f2:=zai (f:=fun o:OnC=>if o.name∈h.vis then 0 else 6) hlt2 ha2
   have hno:x.clock[j].name.length≤1000000000:=by have:=zpP (List.getElem_mem hlt2);omega
   generalize x.clock[j]=o at*
   repeat' (first|refine wkt ?_|refine wka ?_|refine wkD ?_|refine wk ?_|exact wkc|intro hc|refine wk2 ?_ ?_|(apply TO.zer;(iterate 4 exact rfl);assumption;assumption)|(apply TO.zjP;(iterate 3 exact rfl);assumption)|(apply TO.zp3;(iterate 4 exact rfl);assumption;assumption;exact rfl)|refine wms ?_|(apply TO.sees hk;exact rfl;exact rfl;(first|exact rfl|exact Ch.tk _ _ _ _ _);assumption)|(apply TO.defined hk;exact rfl;exact rfl;(first|exact rfl|exact Ch.tk _ _ _ _ _);assumption)|fail)
   ·exact zab.zak hlt2 (f2 (by rw[if_pos hc]))
   ·((repeat' (first|refine zab.panic ?_|refine wk ?_|fail));apply retS;(first|assumption|decide);(clear hx;first|grind|grind [orE]);(first|exact lb|exact Nat.le_refl _|(simp[Ch.len];done)|(simp[Ch.len];omega)))
  ·have e1:=zar ha2
   refine wk ?_
   repeat' (first|refine wu ?_|exact wkc|intro hc|refine wk2 ?_ ?_|fail)
   exact zab.zak hlt (g2 e1)
 ·have e1:=zar ha
  repeat' (first|refine wu ?_|exact wkc|intro hc|refine wk2 ?_ ?_|fail)
  exact zkK e1 (Ch.ble _ _ _ _ _) (Ch.ble _ _ _ _ _) (Ch.tkl _ _ _ _ _) (Ch.und _ _ _ _ _)
end Go.Proofs.YtcbhlhmebbkgnaaGreat
namespace Go.Proofs.YtcbhlhmebbkgnaaGreat
open Go Go.TL
variable {H:Type}
theorem zui{d:DataW H}{y:T}(h:y=mkT (aggB Tryz.prog 35) y.cells/\∃n,TyD Tryz.prog n 35 d y.cells):∃e:Ex,y= .ag (exC e)/\(T.ag (exC e)).w≤2*Rows.uptoBulk d:=by
 obtain⟨e,he⟩:=zvk h
 obtain⟨h1,n,h2⟩:=h
 have:=zsh zob zsK n _ (by decide +kernel) d y.cells h2
 refine⟨e,he,?_⟩
 have hc:y.cells=exC e:=by rw[he];rfl
 rw[hc]at this
 rw[w_ag];omega
end Go.Proofs.YtcbhlhmebbkgnaaGreat
namespace Go.TL
open Go
theorem zuJ{m:M}(hm:HRel m){R:Nat}{e:TypeId}{ts:List T}{p:Place}(hp:m.β[R]?=some p)(hH:m.H[R]?=some (.row e ts)):
  Step m ⟨m.A,m.β++[p],m.H.set R .dead++[.cells (ts.map .t)],m.w⟩/\HRel ⟨m.A,m.β++[p],m.H.set R .dead++[.cells (ts.map .t)],m.w⟩:=by
 have hR:=(List.getElem?_eq_some_iff.1 hH).1
 have hlen:=hm.len
 have pick:∀(i:Nat) q c,(m.β++[p])[i]?=some q->(m.H.set R .dead++[Blk.cells (ts.map .t)])[i]?=some c->c.live=true->(i=m.H.length/\q=p/\c= .cells (ts.map .t))\/(i≠R/\i<m.H.length/\m.β[i]?=some q/\m.H[i]?=some c):=by
  intro i q c h1 h2 hl
  by_cases hi:i<m.H.length
  ·rw[List.getElem?_append_left (by rw[hlen];exact hi)]at h1
   rw[List.getElem?_append_left (by simpa using hi)]at h2
   by_cases hir:i=R
   ·subst hir
    rw[List.getElem?_set_self hR]at h2
    cases h2;cases hl
   ·rw[List.getElem?_set_ne (by omega)]at h2
    exact .inr ⟨hir,hi,h1,h2⟩
  ·rw[List.getElem?_append_right (by rw[hlen];omega)]at h1
   rw[List.getElem?_append_right (by simp;omega)]at h2
   have:i=m.H.length:=by
    have:=(List.getElem?_eq_some_iff.1 h2).1
    simp at this;omega
   subst this
   simp[hlen]at h1 h2
   exact .inl ⟨rfl,h1.symm,h2.symm⟩
 have own:∀b o,Own ⟨m.A,m.β++[p],m.H.set R .dead++[.cells (ts.map .t)],m.w⟩ b o->Own m b o:=by
  rintro b o ⟨i,q,c,h1,h2,h3,h4⟩
  rcases pick i q c h1 h2 h3 with ⟨rfl,rfl,rfl⟩|⟨_,_,g1,g2⟩
  ·exact⟨R,q,_,hp,hH,rfl,h4⟩
  ·exact⟨i,q,c,g1,g2,h3,h4⟩
 have s:Step m ⟨m.A,m.β++[p],m.H.set R .dead++[.cells (ts.map .t)],m.w⟩:=by
  refine⟨rfl,rfl,rfl,Nat.le_refl _,fun _ _ h=>h,fun _ _ h=>.inl h,fun b o h=>.inl (own b o h),fun _ _ _ _=>rfl,fun _ _ _ _ _=>rfl,fun _ _ _=>rfl,fun _ _ h=>h,fun _ L h=>⟨L,h⟩,fun _ _ _ h=>h,fun i q hq=>⟨q,?_,?_⟩⟩
  ·show(m.β++[p])[i]?=some q
   rw[List.getElem?_append_left (List.getElem?_eq_some_iff.1 hq).1];exact hq
  ·have hi:i<m.H.length:=by rw[<-hlen];exact(List.getElem?_eq_some_iff.1 hq).1
   show zbb m.H[i]? (m.H.set R .dead++[Blk.cells (ts.map .t)])[i]? q q
   rw[List.getElem?_append_left (by simpa using hi)]
   by_cases hir:i=R
   ·subst hir
    rw[List.getElem?_set_self hR,hH]
    intro n' h
    cases h
   ·rw[List.getElem?_set_ne (by omega)]
    exact zbb.refl _ _
 obtain⟨⟨r1,r2,r3⟩,r4,r5⟩:=hm.blk R p _ hp hH
 refine⟨s,by simp[hlen],fun i q c h1 h2=>?_,fun i j q q' c c' hij h1 h2 h3 h4 hc hc'=>?_,fun b o h hn=>hm.still b o h (own b o hn),hm.inA,fun i q c h1 h2 hc hq=>?_⟩
 ·cases hlv:c.live with
  | false=>cases c <;> simp[Blk.live]at hlv;trivial
  | true=>
    rcases pick i q c h1 h2 hlv with ⟨rfl,rfl,rfl⟩|⟨_,_,g1,g2⟩
    ·refine⟨by simp[r1];exact r2,r4,fun j c hc=>?_⟩
     rw[List.getElem?_map]at hc
     cases ht:ts[j]? with
     | none=>rw[ht]at hc;cases hc
     | some t=>
       rw[ht]at hc;cases hc
       obtain⟨y,y1,y2,y3⟩:=r5 j t ht
       exact⟨y,y1,y2,.t _ _ y3⟩
    ·exact(hm.blk i q c g1 g2).step hm s (fun o _ _=>⟨rfl,fun _=>rfl⟩) (fun _=>rfl)
 ·rcases pick i q c h1 h2 hc with ⟨rfl,rfl,rfl⟩|⟨a0,a1,a2,a3⟩
  ·rcases pick j q' c' h3 h4 hc' with ⟨rfl,rfl,rfl⟩|⟨b0,b1,b2,b3⟩
   ·exact absurd rfl hij
   ·exact hm.apart R j _ _ _ _ (fun e=>b0 e.symm) hp hH b2 b3 rfl hc'
  ·rcases pick j q' c' h3 h4 hc' with ⟨rfl,rfl,rfl⟩|⟨b0,b1,b2,b3⟩
   ·exact hm.apart i R _ _ _ _ a0 a2 a3 hp hH hc rfl
   ·exact hm.apart i j _ _ _ _ hij a2 a3 b2 b3 hc hc'
 ·rcases pick i q c h1 h2 hc with ⟨rfl,rfl,rfl⟩|⟨a0,a1,a2,a3⟩
  ·exact hm.inO R _ _ hp hH rfl hq
  ·exact hm.inO i q c a2 a3 hc hq
section rules
variable {P:Program}{n:Nat}{env:Env}{H:Heap}{K:TK}{all:Array Oper}{rest:List Oper}{tab:Tab}
variable {d:Nat}{ty:TypeId}{pos:String}{aft:Array Edge}{q:Bool}
theorem TO.fix(x:Nat){R len:Nat}{e:TypeId}{ts:List T}{H':Heap}{ops:List Oper}(hx:env.look x=some (.rw R len))(hH:H[R]?=some (.row e ts))(hl:len=ts.length)(hpos:0<ts.length)(hH':H.set R .dead++[.cells (ts.map .t)]=H')
  (k:TO false P n all ops ((x,.ms 1 H.length 0 len)::env) H' K):TO false P n all ops env H K:=by
 intro φ m a h1 h2 h3 h4
 obtain⟨y,y1,y2⟩:=h3.2 x _ hx
 cases y2 with
 | rw _ _ _ p hp hxs ho=>
   have hH1:m.H[R]?=some (.row e ts):=by rw[h1];exact hH
   obtain⟨s,hm'⟩:=zuJ h2 hp hH1
   have hho:=(ho ts.length (by rw[hH1];rfl)).2 (by rw[hl])
   obtain⟨ad,cap,hyq,hc1,hc2,hc3,hc4⟩:=hho
   have hE:ERel ⟨m.A,m.β++[p],m.H.set R .dead++[.cells (ts.map .t)],m.w⟩ n ((x,.ms 1 H.length 0 len)::env) a.tmps:=by
    refine⟨h3.1,fun i v hv=>?_⟩
    by_cases hi:x=i
    ·subst hi
     rw[Env.zax]at hv
     cases hv
     refine⟨y,y1,?_⟩
     cases ad with
     | none=>simp only at hc4;omega
     | some a0=>
       obtain⟨hc4,hc5⟩:=hc4
       subst hyq hc4
       have hz:(⟨p.b,0,none⟩:Addr)=⟨p.b,p.lo+0,none⟩:=by rw[hc2]
       rw[hz]
       refine .ms 1 H.length 0 len cap p ?_ ?_ hc1 (by omega)
       ·show(m.β++[p])[H.length]?=some p
        rw[<-h1,<-h2.len,List.getElem?_append_right (Nat.le_refl _)];simp
       ·intro n' hn
        have:(m.H.set R .dead++[Blk.cells (ts.map .t)])[H.length]?=some (.cells (ts.map .t)):=by
         rw[<-h1,List.getElem?_append_right (by simp)];simp
        rw[show(M.H ⟨m.A,m.β++[p],m.H.set R .dead++[.cells (ts.map .t)],m.w⟩)[H.length]?=_ from this]at hn
        cases hn
    ·rw[Env.zas _ _ hi]at hv
     exact(h3.step h2 s).2 i v hv
   exact TO.zej (m':=⟨m.A,m.β++[p],m.H.set R .dead++[.cells (ts.map .t)],m.w⟩) s (k φ ⟨m.A,m.β++[p],m.H.set R .dead++[.cells (ts.map .t)],m.w⟩ a (by show m.H.set R .dead++_=H';rw[h1];exact hH') hm' hE (h4.step h2 s))
theorem TO.effV{op:Op}{H':Heap}
  (h:∀(m:M) (a:Act),m.H=H->HRel m->ERel m n env a.tmps->∃x m',(execOp a.eval ⟨none,op,ty,pos,aft,none⟩).run P m.w= .ok (.value x) m'.w/\Step m m'/\HRel m'/\m'.H=H')
  (k:TO false P n all rest env H' K):TO false P n all (⟨none,op,ty,pos,aft,none⟩::rest) env H K:=by
 intro φ m a h1 h2 h3 h4
 obtain⟨x,m',hx,s,hm',hH'⟩:=h m a h1 h2 h3
 refine wpListIn_plain rfl fun K' hK=>?_
 unfold Oper.wpIn
 refine⟨fun _ _=>trivial,?_⟩
 rw[zaT hx (by intro d e;cases e)]
 simp only[Oper.uponIn]
 exact hK _ _ (TO.zej s (k φ m' _ hH' hm' (by simpa [Act.put]using h3.step h2 s) (by simpa [Act.put]using h4.step h2 s)))
theorem TO.zuQ(hT:zaB P tab){t e:TypeId}{i ie:TyI}{z:T}{x:Operand}{id off len:Nat}{cs:List SV}{H':Heap}(ht:tab.get t=some i)(hk:i.k= .slice e)(he:tab.get e=some ie)(hz:ie.zero=[z])(hag:ie.k.agg=false)
  (hx:env.val x=some (.ms 1 id off len))(hH:H[id]?=some (.cells cs))(hpos:0<len)(hl:off+len≤cs.length)(hH':H.set id (.cells (splice cs off (List.replicate len (.t z))))=H')
  (k:TO false P n all rest env H' K):TO false P n all (⟨none,.call { callee:=.builtin .clear,args:=#[x],argTypes:=#[t] },ty,pos,aft,none⟩::rest) env H K:=
 TO.effV (fun m ac h1 h2 h3=>by
  obtain⟨zz,hz1,hz2,_,hz4⟩:=(hT e ie he).zero
  obtain⟨g1,g0,g2⟩:=zbs (A:=m.A) (w:=m.w) _ _ hz2
  have hzz:zz.cells= #[zz]:=by
   have:=hz4 hag
   cases zz <;> simp[Value.oneCell']at this <;> rfl
  have h:=h3.val hx
  generalize hq:ac.eval x=u at h
  cases h with
  | ms _ _ _ _ cap p hp hn hc hh=>
    have hH1:m.H[id]?=some (.cells cs):=by rw[h1];exact hH
    obtain⟨b1,b2,b3⟩:=h2.blk id p _ hp hH1
    have hzr:TRel m.A m.w z zz:=g2 0 z zz (by rw[hz];rfl) (by rw[hzz];rfl)
    obtain⟨s,hm'⟩:=zfO h2 (off:=off) (vs:=List.replicate len (.t z)) (ys:=List.replicate len zz) hp hH1 (by simpa using hl) (by simpa using hpos) (by simp) (fun u hu=>by rw[List.eq_of_mem_replicate hu];exact hz4 hag)
     (fun j c y hc hy=>by
       rw[List.getElem?_replicate]at hc hy
       split at hc
       ·rename_i hj
        rw[if_pos hj]at hy
        cases hc;cases hy
        exact .t _ _ hzr
       ·cases hc)
    refine⟨.tuple #[],_,?_,s,hm',by rw[h1];exact hH'⟩
    have hun:=(hT t i ht).slice hk
    have hrun:=Go.Lib.run_clear_slice (P:=P) m.w t e ty zz hun (fun w=>hz1 w) hzz (hz4 hag) p.b (p.lo+off) len cap hpos (fun j hj=>(b2 _ (by omega) (by omega)).1) (fun j hj=>(b2 _ (by omega) (by omega)).2)
    simp[execOp,resolve,invoke,hq,builtin,hrun]) k
theorem TO.zjs(hT:zaB P tab){t e:TypeId}{i ie:TyI}{x z:Operand}{sz id off len b:Nat}{ik:IntKind}(hd:Nat.ble (d+1) n=true)(ht:tab.get t=some i)(hk:i.k= .slice e)(he:tab.get e=some ie)(hsz:ie.size=sz)
  (hx:env.val x=some (.ms sz id off len))(hz:env.val z=some (.t (.v (.int ik (b:Int)))))(h2:b<len)
  (k:TO q P n all rest ((d,.ms sz id (off+b*sz) (len-b))::env) H K):TO q P n all (⟨some d,.slice t x (some z) none none,ty,pos,aft,none⟩::rest) env H K:=
 TO.op hd (fun m ac g1 g2 g3=>by
  have h:=g3.val hx
  generalize hq:ac.eval x=v at h
  cases h with
  | ms _ _ _ _ cap p hp hn hc hh=>
    refine⟨.slice (some ⟨p.b,p.lo+(off+b*sz),none⟩) (len-b) (cap-b),fun w' hw'=>?_,.ms sz id (off+b*sz) (len-b) (cap-b) p hp hn (by omega) ?_⟩
    ·have:=zcR (P:=P) hT ht hk he (some ⟨p.b,p.lo+off,none⟩) len cap (some (ac.eval z)) none b len w' (.inr ⟨ik,by rw[(g3.val hz).v_eq]⟩) (.inl ⟨rfl,rfl⟩) (by omega) (by omega)
     rw[if_neg (by omega),hsz]at this
     simp only[Option.map_some,zbF,Nat.add_assoc]at this
     simp[execOp,hq,this]
    ·have:b*sz+(cap-b)*sz=cap*sz:=by rw[<-Nat.add_mul];congr 1;omega
     omega) k
theorem TO.zh1{ops:List Oper}(i sz id len:Nat){cs:List SV}{es:List T}{H':Heap}(hi:env.look i=some (.ms sz id 0 len))(hH:H[id]?=some (.cells cs))(hcl:es.length*sz≤cs.length)(hcs:∀(j:Nat) c,((es.map T.cells).flatten.map SV.t)[j]?=some c->cs[j]?=some c)(hlen:len=es.length)(hsz:∀e∈es,e.cells.length=sz)
  (hpos:Nat.ble 1 sz=true)(hH':H.set id .dead=H')(k:TO false P n all ops ((i,.t (.sl sz es))::env) H' K):TO false P n all ops env H K:=by
 intro φ m a h1 h2 h3 h4
 have hp':=Nat.le_of_ble_eq_true hpos
 obtain⟨x,hx1,hx2⟩:=h3.2 i _ hi
 subst hlen
 obtain⟨l1,l2⟩:=zcz es hsz
 cases hx2 with
 | ms _ _ _ _ cap p hp hn hc hh=>
   have hH1:m.H[id]?=some (.cells cs):=by rw[h1];exact hH
   obtain⟨b1,b2,b3⟩:=h2.blk id p _ hp hH1
   have hex:∀j,∃y,j<cs.length->m.w.cell? ⟨p.b,p.lo+j,none⟩=some y/\y.oneCell'=true/\∀c,cs[j]?=some c->SRel m c y:=by
    intro j
    by_cases hj:j<cs.length
    ·obtain⟨y,hy1,hy0,hy2⟩:=b3 j cs[j] (List.getElem?_eq_getElem hj)
     exact⟨y,fun _=>⟨hy1,hy0,fun c hc=>by rw[List.getElem?_eq_getElem hj]at hc;cases hc;exact hy2⟩⟩
    ·exact⟨undef,fun h=>absurd h hj⟩
   let f:Nat->Value:=fun j=>Classical.choose (hex j)
   have hf:=fun j=>Classical.choose_spec (hex j)
   obtain⟨s,hm'⟩:=ziw h2 (k1:=.dead) (p':=p) (A':=fun b o=>m.A b o\/(b=p.b/\p.lo≤o/\o<p.lo+cs.length)) (w':=m.w) hp hH1 rfl rfl rfl rfl (Nat.le_refl _) (fun _ _ _ _=>rfl) (fun _ _ _ _ _=>rfl) (fun _ _ _=>rfl) (fun _ _ _ h=>h) (fun _ _ h=>h)
    (fun _ _ h=>.inl h) (fun b o h=>by
      rcases h with h|h
      ·exact .inl h
      ·exact .inr (.inl (by omega))) (fun h=>by cases h) (fun h=>by cases h) (fun o q1 q2=>(b2 o q1 q2).1) ⟨rfl,fun n'=>by simp[tlOf]⟩ (fun _=>trivial)
   have hlt:∀q j,q<es.length->j<sz->q*sz+j<cs.length:=fun q j hq hj=>by
    have:=Nat.mul_le_mul_right sz (show q+1≤es.length from hq)
    rw[Nat.succ_mul]at this
    omega
   have hr:SRel ⟨fun b o=>m.A b o\/(b=p.b/\p.lo≤o/\o<p.lo+cs.length),m.β.set id p,m.H.set id .dead,m.w⟩ (.t (.sl sz es)) (.slice (some ⟨p.b,p.lo+0,none⟩) es.length cap):=by
    refine .t _ _ (.sl sz es p.b (p.lo+0) cap f hc (fun j e he=>hsz e (List.mem_of_getElem? he)) (fun q j hq hj=>.inr ⟨rfl,by omega,by have:=hlt q j hq hj;omega⟩) (fun q j hq hj=>(hf _ (hlt q j hq hj)).1) (fun q j hq hj=>(hf _ (hlt q j hq hj)).2.1) (fun q e j c he hc'=>?_))
    have hq:=(List.getElem?_eq_some_iff.1 he).1
    have hj:=(List.getElem?_eq_some_iff.1 hc').1
    rw[hsz e (List.mem_of_getElem? he)]at hj
    have hcc:cs[q*sz+j]?=some (.t c):=hcs _ _ (by rw[List.getElem?_map,l2 q j e c he hc'];rfl)
    have:=(hf _ (hlt q j hq hj)).2.2 _ hcc
    cases this with
    | t _ _ h=>exact s.trel h2 h
   refine TO.zej (m':=⟨fun b o=>m.A b o\/(b=p.b/\p.lo≤o/\o<p.lo+cs.length),m.β.set id p,m.H.set id .dead,m.w⟩) s (k φ ⟨fun b o=>m.A b o\/(b=p.b/\p.lo≤o/\o<p.lo+cs.length),m.β.set id p,m.H.set id .dead,m.w⟩ a (by rw[h1];exact hH') hm' ⟨h3.1,fun j v hv=>?_⟩ (h4.step h2 s))
   by_cases hj:i=j
   ·subst hj
    rw[Env.zax]at hv
    cases hv
    exact⟨_,hx1,hr⟩
   ·rw[Env.zas _ _ hj]at hv
    exact(h3.step h2 s).2 j v hv
end rules
end Go.TL
