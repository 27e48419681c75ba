import Derived.DeepKeys5
import Derived.Test.YtdicfgideclbdaaGreatDoorAk18
set_option maxHeartbeats 64000000
set_option linter.all false
namespace Go.Proofs.YtdicfgideclbdaaGreatDoor
open Go Go.TL
attribute [local irreducible] TR TO Then zaj RetK Sound zac Kf GG zaQ
variable {k d:Nat}{l:List Str}{H' H1 H:Heap}{rs:List ResultVar}{cargs caps vs:List SV}{f x y:Operand}{fid:FuncId}{nm:Str}{Q:Prop}{q c a:Int}{α β:Type}{pv:SV}{env:Env}{K:TK}{all:Array Oper}{rest:List Oper}{ty:TypeId}{aft:Array Edge}{p:Prog}{seen:List (Int×Str×Int)}{ts:Array TypeId}
theorem kStr:Maps.Keyed Tryz.prog 9:=Maps.string_keyed Tryz.underlying9
set_option maxRecDepth 100000 in
theorem kKey:Maps.Keyed Tryz.prog 121:=Maps.Keyed.of_law (deep_law_laid (m:=3) oD oB (qaj oD) oD oD)
theorem keyS{s:Str}(h:s.length≤1000000000):∃l,keyOf Tryz.prog 9 (str s)=some l:=by
 exact zwbn
abbrev keyV (k:Int)(s:Str):Value:=.agg #[.int .i64 k,str s]
theorem zAI:Tryz.prog.keyType 121=true:=oD
theorem zvC:Tryz.prog.cellsOf 121=2:=oD
theorem zyV:Tryz.prog.cellsOf 3=1:=oD
theorem zyW:Tryz.prog.cellsOf 9=1:=oD
theorem zAm:∃N,Tryz.prog.types.size=N+1:=⟨Tryz.prog.types.size-1,oD⟩
theorem zuD(N:Nat){k:Int}{s:Str}(hw:(Lit.int .i64 k).wf=true)(hs:(⟨s.toArray⟩:ByteArray).size≤maxLen):
  (Tryz.prog.keyLits (N+1+1) 121 [.int .i64 k,str s])=some [.int .i64 k,.string s]:=by
 have e1:∀c,Tryz.prog.keyLits (N+1) 3 [c]=(match c with| .int q' n=>if q'= .i64/\(Lit.int .i64 n).wf=true then some [.int .i64 n] else none|_=>none):=fun c=>by
  unfold Program.keyLits;simp only[Tryz.underlying3];cases c <;> rfl
 have e2:Tryz.prog.keyLits (N+1) 9 [str s]=some [.string s]:=by
  unfold Program.keyLits;simp only[Tryz.underlying9];rw[oG hs]
 unfold Program.keyLits;simp only[Tryz.underlying121,zvC];simp only[qae,qal,qb8,List.mapM_nil,zyV,zyW,qbj,List.take,List.drop,e1,e2,hw];simp
theorem keyK{k:Int}{s:Str}(hk:0≤k/\k≤2)(h:s.length≤1000000000):∃l,keyOf Tryz.prog 121 (keyV k s)=some l:=by
 have hs:(⟨s.toArray⟩:ByteArray).size≤maxLen:=by
  show s.toArray.size≤maxLen;simp[maxLen];omega
 have hw:(Lit.int .i64 k).wf=true:=by
  simp only[Lit.wf,qar,decide_eq_true_eq];exact⟨by show(-9223372036854775808:Int)≤k;omega,by show k≤(9223372036854775807:Int);omega⟩
 have h5:(Value.agg #[.int .i64 k,str s]).formed Tryz.prog 121=true:=by
  simp only[Value.formed,Tryz.underlying121,zvC];rfl
 obtain⟨N,hN⟩:=zAm;refine⟨.string (keyBytes [.int .i64 k,.string s]),?_⟩;rw[keyOf,Tryz.underlying121];simp only[zAI,h5,hN,Value.cells,Bool.and_self,if_true,zuD N hw hs,qaT]
def ins(l:List Str)(s:Str):List Str:=if s∈l then l else l++[s]
abbrev setB (l:List Str):Blk:=.map 9 4 (l.map fun s=>(str s,.v (.bool true)))
abbrev zb8 (l:List (Int×Str×Int)):Blk:=.map 121 3 (l.map fun e=>(keyV e.1 e.2.1,.v (.int .i64 e.2.2)))
structure zbm (l:List Str):Prop where
 nodup:l.Nodup
 short:∀s∈l,s.length≤1000000000
structure zaV (l:List (Int×Str×Int)):Prop where
 nodup:(l.map fun e=>(e.1,e.2.1)).Nodup
 short:∀e∈l,(0≤e.1/\e.1≤2)/\e.2.1.length≤1000000000
def zaB(l:List (Int×Str×Int))(k:Int)(s:Str):Option Int:=(l.find? fun e=>decide (e.1=k/\e.2.1=s)).map fun e=>e.2.2
theorem str_inj{a b:Str}(h:str a=str b):a=b:=by
 exact zwer
theorem zo8{k j:Int}{a b:Str}(h:keyV k a=keyV j b):k=j/\a=b:=by
 simp only[keyV,Value.agg.injEq,Array.mk.injEq,qbd,Value.int.injEq,true_and,and_true]at h;exact⟨h.1,str_inj h.2⟩
theorem zbm.nil:zbm []:=⟨qbI,oC⟩
theorem zbm.ins{l:List Str}{s:Str}(h:zbm l)(hs:s.length≤1000000000):zbm (ins l s):=by
 unfold Go.Proofs.YtdicfgideclbdaaGreatDoor.ins;split
 ·exact h
 ·rename_i hn;refine⟨qbs.2 ⟨h.nodup,oC,fun a ha b hb e=>?_⟩,fun x hx=>?_⟩
  ·simp at hb;subst hb;subst e;exact hn ha
  ·simp at hx;rcases hx with hx|rfl
   ·exact h.short x hx
   ·exact hs
theorem zbm.keys(h:zbm l):zhI Tryz.prog 9 (l.map fun s=>(str s,.v (.bool true))):=by
 intro j e he;rw[qan]at he;cases hq:l[j]? with
 | none=>rw[hq]at he;cases he
 | some s=>rw[hq]at he;cases he;exact keyS (h.short s (qau hq))
theorem zaV.nil:zaV []:=⟨qbI,oC⟩
theorem zaV.keys{l:List (Int×Str×Int)}(h:zaV l):zhI Tryz.prog 121 (l.map fun e=>(keyV e.1 e.2.1,.v (.int .i64 e.2.2))):=by
 intro j e he;rw[qan]at he;cases hq:l[j]? with
 | none=>rw[hq]at he;cases he
 | some s=>rw[hq]at he;cases he;have:=h.short s (qau hq);exact keyK this.1 this.2
theorem zaV.add{l:List (Int×Str×Int)}{k v:Int}{s:Str}(h:zaV l)(hk:0≤k/\k≤2)(hs:s.length≤1000000000)(hn:zaB l k s=none):zaV (l++[(k,s,v)]):=by
 refine⟨?_,fun e he=>?_⟩
 ·rw[qaw];refine qbs.2 ⟨h.nodup,oC,fun a ha b hb e=>?_⟩;simp at hb;subst hb;subst e
  obtain⟨e,he,heq⟩:=qaL.1 ha;simp only[zaB,Option.map_eq_none_iff,qcv,decide_eq_true_eq]at hn;simp only[qbt]at heq;exact hn e he heq
 ·simp at he;rcases he with he|rfl
  ·exact h.short e he
  ·exact⟨hk,hs⟩
theorem ztb(h:zbm l)(s:Str):zlf (l.map fun s=>(str s,T.v (.bool true))) (str s) (if s∈l then some (.v (.bool true)) else none):=by
 by_cases hm:s∈l
 ·rw[oG hm];obtain⟨j,hj⟩:=qbg hm;refine⟨j,by simp[hj],fun j' t' h'=>?_⟩;rw[qan]at h';cases hq:l[j']? with
  | none=>rw[hq]at h';cases h'
  | some x=>
    rw[hq]at h';simp only[qaT,qaI,qbt]at h'
    have:=str_inj h'.1
    subst this;exact(qcF (qaa.1 hq).1 h.nodup).1 (hq.trans hj.symm)
 ·rw[oH hm];intro j e he e2;rw[qan]at he;cases hq:l[j]? with
  | none=>rw[hq]at he;cases he
  | some x=>
    rw[hq]at he;cases he
    have:=str_inj e2
    subst this;exact hm (qau hq)
theorem zyh(h:zbm l)(s:Str):zq8 (l.map fun s=>(str s,T.v (.bool true))) (str s) (.v (.bool true)) ((ins l s).map fun s=>(str s,T.v (.bool true))):=by
 have hg:=ztb h s;unfold ins;by_cases hm:s∈l
 ·rw[oG hm]at hg⊢;obtain⟨j,hj,hu⟩:=hg;refine .inl ⟨j,_,hj,hu,?_⟩;have hlt:=(qaa.1 hj)
  conv=>rhs;rw[<-hlt.2]
  rw[qbv]
 ·rw[oH hm]at hg⊢;exact .inr ⟨hg,oC⟩
theorem zpC{l:List (Int×Str×Int)}(h:zaV l)(k:Int)(s:Str):zlf (l.map fun e=>(keyV e.1 e.2.1,T.v (.int .i64 e.2.2))) (keyV k s) ((zaB l k s).map fun v=>.v (.int .i64 v)):=by
 unfold zaB;cases hf:l.find? (fun e=>decide (e.1=k/\e.2.1=s)) with
 | none=>
   rw[qcv]at hf;intro j e he e2;rw[qan]at he;cases hq:l[j]? with
   | none=>rw[hq]at he;cases he
   | some x=>
     rw[hq]at he;cases he
     exact hf x (qau hq) (by simpa using zo8 e2)
 | some e=>
   have hm:=qb9 hf;have hp:=List.find?_some hf;simp only[decide_eq_true_eq]at hp;obtain⟨j,hj⟩:=qbg hm;refine⟨j,by simp[hj,hp.1,hp.2],fun j' t' h'=>?_⟩;rw[qan]at h';cases hq:l[j']? with
   | none=>rw[hq]at h';cases h'
   | some x=>
     rw[hq]at h';simp only[qaT,qaI,qbt]at h';have h1:=zo8 h'.1;have e1:(l.map fun e=>(e.1,e.2.1))[j']?=some (k,s):=by simp[hq,h1.1,h1.2]
     have e2:(l.map fun e=>(e.1,e.2.1))[j]?=some (k,s):=by simp[hj,hp.1,hp.2]
     exact(qcF (qaa.1 e1).1 h.nodup).1 (e1.trans e2.symm)
theorem zsn{k:Int}{s:Str}{m:M}{v:Value}(h:SRel m (.t (.ag [.i k,.s s])) v):v=keyV k s:=by
 cases h with
 | t _ _ h=>
   cases h with
   | ag _ arr hs h1 h2=>
     obtain⟨l⟩:=arr
     match l,hs with
     | [a,b],_=>
       have ha:=h2 0 _ a rfl rfl;have hb:=h2 1 _ b rfl rfl;cases ha;cases hb
       rfl
section
variable {n:Nat}{id:Nat}{pos:String}{w:Operand}{q:Bool}
theorem TO.zjY{s:Str}(hd:Nat.ble (d+1) n=true)(hx:env.val x=some (.mp id))(hH:H[id]?=some (setB l))(hy:env.val y=some (.s s))(hl:zbm l)(hs:s.length≤1000000000)
  (k1:s∈l->TO q Tryz.prog n all rest ((d,.b true)::env) H K)(k2:s ∉ l->TO q Tryz.prog n all rest ((d,.b false)::env) H K):
  TO q Tryz.prog n all (⟨some d,.lookup 179 x y false,ty,pos,aft,none⟩::rest) env H K:=by
 refine TO.lookup zaf hd rfl rfl rfl rfl rfl kStr hx hH hl.keys hy (kx:=str s) (fun m v h=>h.v_eq) (keyS hs) (ztb hl s) ?_;by_cases hm:s∈l
 ·rw[oG hm];exact k1 hm
 ·rw[oH hm];exact k2 hm
theorem TO.zjJ{s:Str}(hd:Nat.ble (d+1) n=true)(hx:env.val x=some (.t (.v (.map none))))(hy:env.val y=some (.s s))(hs:s.length≤1000000000)(k:TO q Tryz.prog n all rest ((d,.b false)::env) H K):
  TO q Tryz.prog n all (⟨some d,.lookup 179 x y false,ty,pos,aft,none⟩::rest) env H K:=
 TO.lookup_nil zaf hd rfl rfl rfl rfl rfl kStr hx hy (kx:=str s) (fun m v h=>h.v_eq) (keyS hs) k
theorem TO.zta{s:Str}(hx:env.val x=some (.mp id))(hH:H[id]?=some (setB l))(hy:env.val y=some (.s s))(hw:env.val w=some (.b true))(hl:zbm l)(hs:s.length≤1000000000)
  (hH':setS H id (setB (ins l s))=some H')(k:TO false Tryz.prog n all rest env H' K):
  TO false Tryz.prog n all (⟨none,.mapUpdate 179 x y w,ty,pos,aft,none⟩::rest) env H K:=
 TO.mapUpdate zaf rfl rfl kStr hx hH hl.keys hy (kx:=str s) (fun m v h=>h.v_eq) (keyS hs) hw rfl (zyh hl s) (zgI hH').symm k
theorem TO.zkQ{l:List (Int×Str×Int)}{s:Str}{k:Int}(hd:Nat.ble (d+1) n=true)(hx:env.val x=some (.mp id))(hH:H[id]?=some (zb8 l))(hy:env.val y=some (.t (.ag [.i k,.s s])))(hl:zaV l)(hk:0≤k/\k≤2)(hs:s.length≤1000000000)
  (k1:∀v,zaB l k s=some v->TO q Tryz.prog n all rest ((d,.tup [.i v,.b true])::env) H K)(k2:zaB l k s=none->TO q Tryz.prog n all rest ((d,.tup [.i 0,.b false])::env) H K):
  TO q Tryz.prog n all (⟨some d,.lookup 116 x y true,ty,pos,aft,none⟩::rest) env H K:=by
 refine TO.lookup zaf hd rfl rfl rfl rfl rfl kKey hx hH hl.keys hy (kx:=keyV k s) (fun m v h=>zsn h) (keyK hk hs) (zpC hl k s) ?_;cases hg:zaB l k s with
 | none=>exact k2 hg
 | some v=>exact k1 v hg
theorem TO.zyd{l:List (Int×Str×Int)}{s:Str}{k v:Int}(hx:env.val x=some (.mp id))(hH:H[id]?=some (zb8 l))(hy:env.val y=some (.t (.ag [.i k,.s s])))(hw:env.val w=some (.i v))(hl:zaV l)(hn:zaB l k s=none)(hk:0≤k/\k≤2)(hs:s.length≤1000000000)
  (hH':setS H id (zb8 (l++[(k,s,v)]))=some H')(kk:TO false Tryz.prog n all rest env H' K):
  TO false Tryz.prog n all (⟨none,.mapUpdate 116 x y w,ty,pos,aft,none⟩::rest) env H K:=by
 have hg:=zpC hl k s;rw[hn]at hg;exact TO.mapUpdate zaf rfl rfl kKey hx hH hl.keys hy (kx:=keyV k s) (fun m v h=>zsn h) (keyK hk hs) hw rfl (.inr ⟨hg,by rw[qaw];rfl⟩) (zgI hH').symm kk
end
structure Lv where
 own:List Str
 done:List Str
 defs:List Str
structure Lv.ok (a:Lv):Prop where
 own:zbm a.own
 done:zbm a.done
inductive Ch where
 | one (a:Lv)
 | c1 (i:List Str) (a:Lv)
 | c2 (i:List Str) (a b:Lv)
 | c3 (i:List Str) (a b c:Lv)
 | c4 (i:List Str) (a b c d:Lv)
abbrev nilP:SV:=.t (.v (.pointer none))
abbrev nilM:SV:=.t (.v (.map none))
abbrev nilS:SV:=.t (.v (.slice none 0 0))
abbrev rowB (l:List Str):Blk:=.row 9 (l.map T.s)
abbrev nmB (up:SV)(b:Nat)(inp:SV)(a:Lv):Blk:=.cells [up,.mp b,.mp (b+1),inp,.rw (b+3) (a.defs.map T.s).length]
abbrev lkB (p:Prog)(n q:Int):Blk:=.cells [.t (.sl 2 (p.enums.map enT)),.t (zb0 p.nodes),.i n,.i q,.mp 1]
namespace Ch
def vis0:Ch->List Str
 | one _=>[]|c1 _ _=>[]|c2 _ a _=>a.own|c3 _ a b _=>a.own++b.own|c4 _ a b c _=>a.own++b.own++c.own
def top:Ch->Lv
 | one a=>a|c1 _ a=>a|c2 _ _ b=>b|c3 _ _ _ c=>c|c4 _ _ _ _ d=>d
def low:Ch->List Str
 | one _=>[]|c1 i _=>i|c2 i a _=>i++a.done|c3 i a b _=>i++a.done++b.done|c4 i a b c _=>i++a.done++b.done++c.done
def set:Ch->Lv->Ch
 | one _,x=>one x|c1 i _,x=>c1 i x|c2 i a _,x=>c2 i a x|c3 i a b _,x=>c3 i a b x|c4 i a b c _,x=>c4 i a b c x
def vis(h:Ch):List Str:=h.vis0++h.top.own
def id:Ch->Nat
 | one _=>4|c1 .. =>4|c2 .. =>9|c3 .. =>13|c4 .. =>17
def N:Ch->Nat
 | one _=>5|c1 .. =>7|c2 .. =>11|c3 .. =>15|c4 .. =>19
def heap:Ch->Heap
 | one a=>[setB a.own,setB a.done,.cells [nilP,.mp 2,.mp 3,nilM,nilS]]
 | c1 i a=>[setB a.own,setB a.done,nmB nilP 2 (.mp 6) a,rowB a.defs,setB i]
 | c2 i a b=>[setB a.own,setB a.done,nmB nilP 2 (.mp 6) a,rowB a.defs,setB i,setB b.own,setB b.done,nmB (.ref 4 0) 7 nilM b,rowB b.defs]
 | c3 i a b c=>[setB a.own,setB a.done,nmB nilP 2 (.mp 6) a,rowB a.defs,setB i,setB b.own,setB b.done,nmB (.ref 4 0) 7 nilM b,rowB b.defs,setB c.own,setB c.done,nmB (.ref 9 0) 11 nilM c,rowB c.defs]
 | c4 i a b c d=>[setB a.own,setB a.done,nmB nilP 2 (.mp 6) a,rowB a.defs,setB i,setB b.own,setB b.done,nmB (.ref 4 0) 7 nilM b,rowB b.defs,setB c.own,setB c.done,nmB (.ref 9 0) 11 nilM c,rowB c.defs,setB d.own,setB d.done,nmB (.ref 13 0) 15 nilM d,rowB d.defs]
def ok:Ch->Prop
 | one a=>a.ok|c1 i a=>zbm i/\a.ok|c2 i a b=>zbm i/\a.ok/\b.ok|c3 i a b c=>zbm i/\a.ok/\b.ok/\c.ok|c4 i a b c d=>zbm i/\a.ok/\b.ok/\c.ok/\d.ok
end Ch
def Ch.push:Ch->Lv->Ch
 | .c1 i a,x=>.c2 i a x| .c2 i a b,x=>.c3 i a b x| .c3 i a b c,x=>.c4 i a b c x|h,_=>h
theorem Ch.lt{P:Ch->Prop}(k:∀h,let g:=h;P g):∀h,P h:=k
abbrev full (p:Prog)(n q:Int)(seen:List (Int×Str×Int))(h:Ch):Heap:=lkB p n q::zb8 seen::h.heap
theorem retV{v v':SV}(hr:zbO tab env H rs=some [v'])(hv:v'=v)(hu:v.under H.length=true)(hb:zaa H.length H=true):
  RetK tab rs H.length (fun r H'=>r= .ret v/\H'=H) .ret env H:=RetK.at H.length hr (by subst hv;exact Le.refl _) (qag _) rfl hu hb ⟨rfl,rfl⟩
theorem bsv{a b:Bool}(h:a=b):SV.b a=SV.b b:=by rw[h]
theorem zqU(p:Prog)(n q:Int)(seen:List (Int×Str×Int))(h:Ch)(hk:h.ok)(nm:Str)(hs:nm.length≤1000000000):
  Sound Tryz.prog 139 [.ref h.id 0,.s nm] (full p n q seen h) (fun r H'=>r= .ret (.b (decide (nm∈h.vis)))/\H'=full p n q seen h):=by
 cases h
 all_goals
  first
  | have a1:=hk.own
  | have a1:=hk.2.own
  | have a1:=hk.2.1.own;have b1:=hk.2.2.own
  | have a1:=hk.2.1.own;have b1:=hk.2.2.1.own;have c1:=hk.2.2.2.own
  | have a1:=hk.2.1.own;have b1:=hk.2.2.1.own;have c1:=hk.2.2.2.1.own;have d1:=hk.2.2.2.2.own
  simp only[full,Ch.heap,Ch.id,Ch.vis,Ch.vis0,Ch.top];refine so Tryz.func139 ?_;repeat' (first|refine wkt ?_|refine wka ?_|refine wk ?_|exact wkc|refine wk2 ?_ ?_|(apply TO.zjY;(iterate 4 exact rfl);assumption;assumption)|(apply TO.zjJ;(iterate 3 exact rfl);assumption)|(apply TO.zgD zaf;(iterate 5 exact rfl))|(apply TO.zgC zaf;(iterate 4 exact rfl))|refine TR.loop ?_|refine Then.normal ?_|refine Then.exit ?_|refine Then.ret ?_|intro hc)
  all_goals exact retV rfl (bsv (by simp_all)) rfl rfl
theorem zki(p:Prog)(n q:Int)(seen:List (Int×Str×Int))(h:Ch)(hk:h.ok)(nm:Str)(hs:nm.length≤1000000000):
  Sound Tryz.prog 142 [.ref h.id 0,.s nm] (full p n q seen h) (fun r H'=>r= .ret (.b (decide (nm∈h.low\/nm∈h.top.done)))/\H'=full p n q seen h):=by
 cases h
 all_goals
  first
  | have a1:=hk.done
  | have a1:=hk.2.done
  | have a1:=hk.2.1.done;have b1:=hk.2.2.done
  | have a1:=hk.2.1.done;have b1:=hk.2.2.1.done;have c1:=hk.2.2.2.done
  | have a1:=hk.2.1.done;have b1:=hk.2.2.1.done;have c1:=hk.2.2.2.1.done;have d1:=hk.2.2.2.2.done
  have i1:=hk.1;simp only[full,Ch.heap,Ch.id,Ch.low,Ch.top];refine so Tryz.func142 ?_;repeat' (first|refine wkt ?_|refine wka ?_|refine wk ?_|exact wkc|refine wk2 ?_ ?_|(apply TO.zjY;(iterate 4 exact rfl);assumption;assumption)|(apply TO.zjJ;(iterate 3 exact rfl);assumption)|(apply TO.zgD zaf;(iterate 5 exact rfl))|(apply TO.zgC zaf;(iterate 4 exact rfl))|refine TR.loop ?_|refine Then.normal ?_|refine Then.exit ?_|refine Then.ret ?_|intro hc)
  all_goals exact retV rfl (bsv (by simp_all)) rfl rfl
variable {h h':Ch}
abbrev zcu (n q c:Int):SV:=.ifc 113 (.t (.ag [T.i n,T.i q,T.i c]))
theorem zuK(p:Prog)(n q:Int)(seen:List (Int×Str×Int))(e:Int):Sound Tryz.prog 99 [.ref 0 0,.b true,.i e] [lkB p n q,zb8 seen] (fun r H'=>r= .ret (.tup [])/\H'=[lkB p n q,zb8 seen]):=by
 refine so Tryz.func99 ?_;refine ya ?_;exact RetK.zih 2 (vs:=[]) rfl (Le.refl _) rfl rfl rfl rfl rfl ⟨rfl,rfl⟩
theorem zuJ(p:Prog)(n q:Int)(seen:List (Int×Str×Int))(e:Int)(he:e≠0):Sound Tryz.prog 99 [.ref 0 0,.b false,.i e] [lkB p n q,zb8 seen] (Err e (.tup []) (zcu n q e) [lkB p n q,zb8 seen]):=by
 refine Sound.err rfl (fun _=>rfl) ?_;refine so Tryz.func99 ?_;repeat' (first|refine wu ?_|exact wkc|refine wk2 ?_ ?_|(apply TO.makeInterface;exact rfl;kernel_rfl;exact rfl)|(apply TO.panic;exact rfl)|intro hc)
 exact RetK.errP he rfl rfl rfl
theorem Ch.len(h:Ch)(p:Prog)(n q:Int)(seen:List (Int×Str×Int)):(full p n q seen h).length=h.N:=by cases h <;> rfl
theorem Ch.under(h:Ch)(p:Prog)(n q:Int)(seen:List (Int×Str×Int)):zaa h.N (full p n q seen h)=true:=by cases h <;> rfl
theorem Ch.tk(h:Ch)(p:Prog)(n q:Int)(seen:List (Int×Str×Int)):(full p n q seen h).take h.N=full p n q seen h:=qaJ (by rw[Ch.len];exact qag _)
theorem Ch.tkl(h:Ch)(p:Prog)(n q:Int)(seen:List (Int×Str×Int)):(full p n q seen h).take (full p n q seen h).length=full p n q seen h:=qaJ (qag _)
theorem Ch.und(h:Ch)(p:Prog)(n q:Int)(seen:List (Int×Str×Int)):zaa (full p n q seen h).length (full p n q seen h)=true:=by rw[Ch.len];exact Ch.under h p n q seen
theorem Ch.ble(h:Ch)(p:Prog)(n q:Int)(seen:List (Int×Str×Int)):Nat.ble (full p n q seen h).length (full p n q seen h).length=true:=by simp
section
variable {n:Nat}{pos:String}{q e:Int}{Hr:Heap}{args:Array Operand}
theorem TO.zzA(hd:Nat.ble (d+1) n=true)(ha:env.vals args.toList=some [.ref 0 0,.b true,.i e])(h1:H=lkB p a q::zb8 seen::Hr)(k:TO false Tryz.prog n all rest ((d,.tup [])::env) H K):
  TO false Tryz.prog n all (⟨some d,.call { callee:=.value (.func 99),args:=args,argTypes:=ts },ty,pos,aft,none⟩::rest) env H K:=by
 subst h1;exact TO.zbI 2 (zuK p a q seen e) hd rfl ha ⟨Le.refl _,Le.refl _,Le.refl _,trivial⟩ oC rfl rfl rfl rfl rfl rfl (by simp[zbn]) k
theorem TO.zv2(hd:Nat.ble (d+1) n=true)(ha:env.vals args.toList=some [.ref 0 0,.b false,.i e])(h1:H=lkB p a q::zb8 seen::Hr)(he:e≠0)(k:K (.panic (zcu a q e)) env (.dead:: .dead::Hr)):
  TO false Tryz.prog n all (⟨some d,.call { callee:=.value (.func 99),args:=args,argTypes:=ts },ty,pos,aft,none⟩::rest) env H K:=by
 subst h1;exact TO.zly 2 (zuJ p a q seen e he) hd rfl ha ⟨Le.refl _,Le.refl _,Le.refl _,trivial⟩ oC rfl rfl rfl rfl rfl rfl rfl (by simp[zbn];rfl) (fun h=>oI h he) (fun _=>k)
theorem TO.zoF(N:Nat){Hc:Heap}{b:Bool}
  (hs:Sound Tryz.prog fid cargs Hc fun r H'=>r= .ret (.b b)/\H'=Hc)(hd:Nat.ble (d+1) n=true)(hf:env.val f=some (.fn fid caps))(ha:env.vals args.toList=some vs)(hl:Les (vs++caps) cargs)
  (hN:N≤H.length)(hc:H.take N=Hc)(hu:unders N cargs=true)(hb:zaa N Hc=true)
  (k1:b=true->TO false Tryz.prog n all rest ((d,.b true)::env) H K)(k2:b=false->TO false Tryz.prog n all rest ((d,.b false)::env) H K):
  TO false Tryz.prog n all (⟨some d,.call { callee:=.value f,args:=args,argTypes:=ts },ty,pos,aft,none⟩::rest) env H K:=by
 have hl1:Hc.length=N:=by rw[<-hc];simp;omega
 refine TO.zbI N hs hd hf ha hl (by simpa using hN) hc hu hb rfl hl1 hb (H':=H) (by rw[<-hc,qaX,zbn]) ?_;cases b
 ·exact k2 rfl
 ·exact k1 rfl
theorem TO.sees(hk:h.ok)(hd:Nat.ble (d+1) n=true)(ha:env.vals args.toList=some [.ref h.id 0,.s nm])(hH:H.take h.N=full p a q seen h)(hs:nm.length≤1000000000)
  (k1:nm∈h.vis->TO false Tryz.prog n all rest ((d,.b true)::env) H K)(k2:nm ∉ h.vis->TO false Tryz.prog n all rest ((d,.b false)::env) H K):
  TO false Tryz.prog n all (⟨some d,.call { callee:=.value (.func 139),args:=args,argTypes:=ts },ty,pos,aft,none⟩::rest) env H K:=by
 have hN:h.N≤H.length:=by have:=oJ List.length hH;rw[Ch.len]at this;simp at this;omega
 refine TO.zoF h.N (zqU p a q seen h hk nm hs) hd rfl ha ⟨Le.refl _,Le.refl _,trivial⟩ hN hH ?_ (Ch.under h p a q seen) (fun hb=>k1 (by simpa using hb)) (fun hb=>k2 (by simpa using hb));cases h <;> rfl
theorem TO.defined(hk:h.ok)(hd:Nat.ble (d+1) n=true)(ha:env.vals args.toList=some [.ref h.id 0,.s nm])(hH:H.take h.N=full p a q seen h)(hs:nm.length≤1000000000)
  (k1:(nm∈h.low\/nm∈h.top.done)->TO false Tryz.prog n all rest ((d,.b true)::env) H K)(k2:¬(nm∈h.low\/nm∈h.top.done)->TO false Tryz.prog n all rest ((d,.b false)::env) H K):
  TO false Tryz.prog n all (⟨some d,.call { callee:=.value (.func 142),args:=args,argTypes:=ts },ty,pos,aft,none⟩::rest) env H K:=by
 have hN:h.N≤H.length:=by have:=oJ List.length hH;rw[Ch.len]at this;simp at this;omega
 refine TO.zoF h.N (zki p a q seen h hk nm hs) hd rfl ha ⟨Le.refl _,Le.refl _,trivial⟩ hN hH ?_ (Ch.under h p a q seen) (fun hb=>k1 (by simpa using hb)) (fun hb=>k2 (by simpa using hb));cases h <;> rfl
end
theorem wms{G:Prop}(k:Q)(h:Hold Q->G:=by
  intro k
  first
  | (apply Go.Proofs.YtdicfgideclbdaaGreatDoor.TO.zzA;(iterate 3 exact rfl);exact k.p)
  | (apply Go.Proofs.YtdicfgideclbdaaGreatDoor.TO.zv2;(iterate 3 exact rfl);decide;exact k.p)
  | (apply Go.Proofs.YtdicfgideclbdaaGreatDoor.TO.zv2;(iterate 3 exact rfl);assumption;exact k.p)):G:=h ⟨k⟩
abbrev SS (f:FuncId)(args:List SV)(p:Prog)(n q:Int)(seen:List (Int×Str×Int))(h h':Ch)(c:Int):Prop:=Sound Tryz.prog f (.ref 0 0::args) (full p n q seen h) (Err c (.tup []) (zcu n q c) (full p n q seen h'))
theorem retS{n c':Int}{N:Nat}{v:SV}(h0:c'≠0)(hc:c'=c)(hN:N≤H.length):
  ziZ (RetK tab rs N (Err0 c v (zcu n q c) H1 N)) (.panic (zcu n q c')) env H:=by
 subst hc;exact ziZ.errP h0 hN (fun _=>rfl)
theorem zmr{n:Int}{N:Nat}(hc:c=0)(hN:Nat.ble N H1.length=true)(hk:Nat.ble H1.length H.length=true)(ht:H.take H1.length=H1)(hb:zaa H1.length H1=true):
  ziZ (RetK tab [] N (Err0 c (.tup []) (zcu n q c) H1 N)) .normal env H:=RetK.errN (vs:=[]) hc rfl (Le.refl _) hN hk rfl ht hb
def zjV(vis:List Str)(l:List Decl):Int:=zad (fun d=>zad (fun o:OnC=>if o.name∈vis then 0 else 6) d.clock) l
theorem zbq{l:List Decl}{d:Decl}(h:d∈l):d.name.length<(zaw l).w/\(T.sl 3 (d.clock.map onT)).w<(zaw l).w:=by
 have:=zaY (f:=zak) (sz:=3) h
 rw[show zak d= .ag (zfR d) from rfl,w_ag]at this;simp only[zfR,qaf,qaD,qaG,qa9,w_s]at this;have h2:(zaw l).w=(T.sl 3 (l.map zak)).w:=rfl;omega
theorem zxP{l:List OnC}{o:OnC}(h:o∈l):o.name.length<(T.sl 3 (l.map onT)).w:=by
 have:=zaY (f:=onT) (sz:=3) h
 rw[onT,w_ag]at this;simp only[qaf,qaD,qaG,qa9,w_s]at this;omega
theorem ziy(p:Prog)(n q:Int)(seen:List (Int×Str×Int))(h:Ch)(hk:h.ok)(l:List Decl)(hw:(zaw l).w≤1000000000):SS 103 [.ref h.id 0,.t (zaw l)] p n q seen h h (zjV h.vis l):=by
 have hml:(l.map zak).length=l.length:=qac _;have hlb:l.length≤1000000000:=qax (qb5 (zaD zak 3 l)) hw;unfold zjV;refine Sound.err rfl (fun _=>rfl) ?_;refine so Tryz.func103 ?_;refine TR.dead ?_;repeat' (first|refine wu ?_|exact wkc|refine wk2 ?_ ?_|intro hc)
 refine TR.zaz l.length (fun k=>zad (fun d=>zad (fun o:OnC=>if o.name∈h.vis then 0 else 6) d.clock) (l.take k)=0) (fun k=>[(0,.ref 0 0),(1,.ref h.id 0),(10,.t (zaw l)),(11,.i (l.map zak).length),(12,.i k)]) (fun _=>full p n q seen h) rfl (fun k hlt ha=>?_) (fun ha=>?_)
 ·have hx:=zd4 hlt;have g1:=zaJ (f:=fun d=>zad (fun o:OnC=>if o.name∈h.vis then 0 else 6) d.clock) hlt ha;have g2:=zax (f:=fun d=>zad (fun o:OnC=>if o.name∈h.vis then 0 else 6) d.clock) hlt ha;have hwx:=(zbq (qak hlt)).2;generalize l[k]=x at*;have hlc:=zaD onT 3 x.clock;have hmo:(x.clock.map onT).length=x.clock.length:=qac _;unfold zfR at hx;repeat' (first|refine wu ?_|exact wkc|refine wk2 ?_ ?_|intro hc)
  refine TR.zaz x.clock.length (fun j=>zad (fun o:OnC=>if o.name∈h.vis then 0 else 6) (x.clock.take j)=0) (fun j=>[(0,.ref 0 0),(1,.ref h.id 0),(10,.t (zaw l)),(11,.i (l.map zak).length),(12,.i k),(17,.t (.sl 3 (x.clock.map onT))),(18,.i (x.clock.map onT).length),(19,.i j)]) (fun _=>full p n q seen h) rfl (fun j hlt2 ha2=>?_) (fun ha2=>?_)
  ·have hx2:=zyK hlt2;have f1:=zaJ (f:=fun o:OnC=>if o.name∈h.vis then 0 else 6) hlt2 ha2;have f2:=zax (f:=fun o:OnC=>if o.name∈h.vis then 0 else 6) hlt2 ha2;have hno:x.clock[j].name.length≤1000000000:=by have:=zxP (qak hlt2);omega
   generalize x.clock[j]=o at*;repeat' (first|refine wkt ?_|refine wka ?_|refine wkD ?_|refine wk ?_|exact wkc|intro hc|refine wk2 ?_ ?_|(apply TO.zjY;(iterate 4 exact rfl);assumption;assumption)|(apply TO.zjJ;(iterate 3 exact rfl);assumption)|(apply TO.zta;(iterate 4 exact rfl);assumption;assumption;exact rfl)|refine wms ?_|(apply TO.sees hk;exact rfl;exact rfl;(first|exact rfl|exact Ch.tk _ _ _ _ _);assumption)|(apply TO.defined hk;exact rfl;exact rfl;(first|exact rfl|exact Ch.tk _ _ _ _ _);assumption)|fail)
   ·exact zac.zaH hlt2 (f2 (by rw[oG hc]))
   ·((repeat' (first|refine zac.panic ?_|refine wk ?_|fail));apply retS;(first|assumption|decide);(clear hx;first|grind|grind [orE]);(first|exact leB|exact Nat.le_refl _|(simp[Ch.len];done)|(simp[Ch.len];omega)))
  ·have e1:=zaF ha2;refine wk ?_;refine ya ?_;exact zac.zaH hlt (g2 e1)
 ·exact zwce
def zag{α β:Type}(f:β->α->β×Int):β->List α->β×Int
 | a,[]=>(a,0)
 | a,x::l=>if(f a x).2=0 then zag f (f a x).1 l else f a x
theorem zeM{α β:Type}(f:β->α->β×Int):∀(l r:List α) (a:β),zag f a (l++r)=if(zag f a l).2=0 then zag f (zag f a l).1 r else zag f a l
 | [],r,a=>by simp[zag]
 | x::l,r,a=>by
   simp only[qaZ,zag];by_cases h:(f a x).2=0
   ·simp only[h,if_true];exact zeM f l r _
   ·simp[h]
theorem zbB{f:β->α->β×Int}{a:β}{l:List α}(hk:k<l.length)(h:(zag f a (l.take k)).2=0):zag f a (l.take (k+1))=f (zag f a (l.take k)).1 l[k]:=by
 rw[qaE hk,zeM,oG h,zag];split
 ·rename_i h2;generalize f (zag f a (l.take k)).1 l[k]=z at*;obtain⟨z1,z2⟩:=z;simp only at h2;subst h2;rfl
 ·rfl
theorem zcI{f:β->α->β×Int}{a:β}{l:List α}(hk:k<l.length)(h:(zag f a (l.take k)).2=0)(hn:(f (zag f a (l.take k)).1 l[k]).2≠0):zag f a l=f (zag f a (l.take k)).1 l[k]:=by
 conv=>lhs;rw[<-qaX k l]
 rw[zeM,oG h,qaN hk,zag,oH hn]
def Lv.zgU(a:Lv)(s:Str):Lv:={ a with own:=ins a.own s }
theorem Lv.ok.zgU{a:Lv}(h:a.ok){s:Str}(hs:s.length≤1000000000):(a.zgU s).ok:=⟨h.own.ins hs,h.done⟩
def zbF(seen:List (Int×Str×Int))(vis0:List Str)(a:Lv)(d:Decl):Lv×Int:=(a.zgU d.name,if(zaB seen 0 d.name).isSome=true\/d.name∈vis0++a.own then 7 else 0)
def zlF(seen:List (Int×Str×Int))(vis0:List Str)(a:Lv)(l:List Decl):Lv×Int:=zag (zbF seen vis0) a l
theorem Ch.zsJ(hk:h.ok):h.top.ok:=by
 cases h
 case one=>exact hk
 case c1=>exact hk.2
 case c2=>exact hk.2.2
 case c3=>exact hk.2.2.2
 case c4=>exact hk.2.2.2.2
theorem Ch.zsI(hk:h.ok){x:Lv}(hx:x.ok):(h.set x).ok:=by
 cases h
 case one=>exact hx
 case c1=>exact⟨hk.1,hx⟩
 case c2=>exact⟨hk.1,hk.2.1,hx⟩
 case c3=>exact⟨hk.1,hk.2.1,hk.2.2.1,hx⟩
 case c4=>exact⟨hk.1,hk.2.1,hk.2.2.1,hk.2.2.2.1,hx⟩
@[simp] theorem Ch.zn0 (h:Ch) (x:Lv):(h.set x).top=x:=by cases h <;> rfl
@[simp] theorem Ch.zkS (h:Ch) (x:Lv):(h.set x).vis0=h.vis0:=by cases h <;> rfl
@[simp] theorem Ch.zyg (h:Ch) (x:Lv):(h.set x).low=h.low:=by cases h <;> rfl
theorem zfS(p:Prog)(n q:Int)(seen:List (Int×Str×Int))(hse:zaV seen)(h:Ch)(hk0:h.ok)(l:List Decl)(hw:(zaw l).w≤1000000000):
  SS 101 [.ref h.id 0,.t (zaw l)] p n q seen h (h.set (zlF seen h.vis0 h.top l).1) (zlF seen h.vis0 h.top l).2:=by
 have hml:(l.map zak).length=l.length:=qac _;have hlb:l.length≤1000000000:=qax (qb5 (zaD zak 3 l)) hw;unfold zlF;have ht0:=Ch.zsJ hk0;have hset:=fun{x:Lv} (hx:x.ok)=>Ch.zsI hk0 hx
 clear hk0;revert ht0 hset;revert h;refine Ch.lt fun h=>?_
 cases h
 all_goals
  intro g ht0 hset;refine Sound.err rfl (fun _=>rfl) ?_;refine so Tryz.func101 ?_;refine TR.dead ?_;repeat' (first|refine wu ?_|exact wkc|refine wk2 ?_ ?_|intro hc)
  refine TR.zaz l.length (fun k=>(zag (zbF seen g.vis0) g.top (l.take k)).2=0/\(zag (zbF seen g.vis0) g.top (l.take k)).1.ok) (fun k=>[(0,.ref 0 0),(1,.ref g.id 0),(10,.t (zaw l)),(11,.i (l.map zak).length),(12,.i k)]) (fun k=>full p n q seen (g.set (zag (zbF seen g.vis0) g.top (l.take k)).1)) ⟨rfl,ht0⟩ (fun k hlt ha=>?_) (fun ha=>?_)
  ·have hx:=zd4 hlt;have hno:l[k].name.length≤1000000000:=by have:=(zbq (qak hlt)).1;omega
   have g1:=zcI (f:=(zbF seen g.vis0)) hlt ha.1;have g2:=zbB (f:=(zbF seen g.vis0)) hlt ha.1;obtain⟨ha1,ha2⟩:=ha;generalize (zag (zbF seen g.vis0) g.top (l.take k)).1=st at*;generalize l[k]=x at*;have hk:=hset ha2;have hown:=ha2.own;have hz:((zbF seen g.vis0) st x).2=if(zaB seen 0 x.name).isSome=true\/x.name∈g.vis0++st.own then 7 else 0:=rfl
   have hz1:((zbF seen g.vis0) st x).1=st.zgU x.name:=rfl;have hok:=ha2.zgU hno;generalize (zbF seen g.vis0) st x=fx at*;unfold zfR at hx;repeat' (first|refine wkt ?_|refine wka ?_|refine wkD ?_|refine wk ?_|exact wkc|intro hc|refine wk2 ?_ ?_|(apply TO.zjY;(iterate 4 exact rfl);assumption;assumption)|(apply TO.zjJ;(iterate 3 exact rfl);assumption)|(apply TO.zta;(iterate 4 exact rfl);assumption;assumption;exact rfl)|refine wms ?_|(apply TO.sees hk;exact rfl;exact rfl;(first|exact rfl|exact Ch.tk _ _ _ _ _);assumption)|(apply TO.defined hk;exact rfl;exact rfl;(first|exact rfl|exact Ch.tk _ _ _ _ _);assumption)|(apply TO.zkQ;(iterate 4 exact rfl);assumption;decide;assumption)|fail)
   all_goals simp only[Ch.vis,Ch.zkS,Ch.zn0]at*
   all_goals first
    | ((repeat' (first|refine zac.panic ?_|refine wk ?_|fail));apply retS;(first|assumption|decide);(clear hx;first|grind|grind [orE]);(first|exact leB|exact Nat.le_refl _|(simp[Ch.len];done)|(simp[Ch.len];omega)))
    | (refine zac.zaH hlt ⟨by rw[g2];clear hx;grind,by rw[g2,hz1];exact hok⟩ ?_ (by rw[g2,hz1];rfl)
       repeat' (first|exact trivial|refine qav rfl ?_|fail))
  ·obtain⟨ha1,ha2⟩:=ha;rw[qap]at*;refine ya ?_;exact zmr ha1 rfl rfl rfl rfl
theorem wkD{G:Prop}(k:Q)(h:Hold Q->G:=by
  first
  | (intro k;apply TR.regionD2 hmix;decide +kernel;exact rfl;exact k.p)
  | (intro k;apply TR.zuX hmix;decide +kernel;exact rfl;exact k.p)):G:=h ⟨k⟩
theorem wsx{G:Prop}(k:Q)(h:Hold Q->G:=by
  intro k
  first
  | (apply TO.zjJ;(iterate 3 exact rfl);assumption;exact k.p)
  | (apply TO.zta;(iterate 4 exact rfl);assumption;assumption;exact rfl;exact k.p)):G:=h ⟨k⟩
theorem wsy{G R:Prop}(k:Q)(l:R)(h:Hold Q->Hold R->G:=by
  intro k l
  first
  | (apply TO.zjY;(iterate 4 exact rfl);assumption;assumption;exact k.p;exact l.p)
  | (apply TO.sees hk;exact rfl;exact rfl;(first|exact rfl|exact Ch.tk _ _ _ _ _);assumption;exact k.p;exact l.p)
  | (apply TO.defined hk;exact rfl;exact rfl;(first|exact rfl|exact Ch.tk _ _ _ _ _);assumption;exact k.p;exact l.p)):G:=h ⟨k⟩ ⟨l⟩
def zlx(p:Prog)(seen:List (Int×Str×Int))(node left:Int)(x:Ex):Int:=
 match zaB seen 1 x.name with
 | none=>6
 | some i=>if i<node then(match p.nodes[i.toNat]? with
   | none=>0
   | some n=>if(x.args.length:Int)≠n.ins.length+x.v.1 then 9 else if(n.outs.length:Int)≠left then 9 else 0) else 6
def zcr(p:Prog)(seen:List (Int×Str×Int)):Prop:=∀s i,zaB seen 1 s=some i->0≤i/\i<p.nodes.length
section
variable {n:Nat}{id:Nat}{pos:String}{q:Bool}
theorem TO.zye{l:List (Int×Str×Int)}{s:Str}{k v:Int}(hd:Nat.ble (d+1) n=true)(hx:env.val x=some (.mp id))(hH:H[id]?=some (zb8 l))(hy:env.val y=some (.t (.ag [.i k,.s s])))(hg:zaB l k s=some v)(hl:zaV l)(hk:0≤k/\k≤2)(hs:s.length≤1000000000)
  (k1:TO q Tryz.prog n all rest ((d,.tup [.i v,.b true])::env) H K):
  TO q Tryz.prog n all (⟨some d,.lookup 116 x y true,ty,pos,aft,none⟩::rest) env H K:=
 TO.zkQ hd hx hH hy hl hk hs (fun w hw=>by rw[hg]at hw;cases hw;exact k1) (fun hn=>by rw[hg]at hn;cases hn)
theorem TO.zwE{l:List (Int×Str×Int)}{s:Str}{k:Int}(hd:Nat.ble (d+1) n=true)(hx:env.val x=some (.mp id))(hH:H[id]?=some (zb8 l))(hy:env.val y=some (.t (.ag [.i k,.s s])))(hg:zaB l k s=none)(hl:zaV l)(hk:0≤k/\k≤2)(hs:s.length≤1000000000)
  (k1:TO q Tryz.prog n all rest ((d,.tup [.i 0,.b false])::env) H K):
  TO q Tryz.prog n all (⟨some d,.lookup 116 x y true,ty,pos,aft,none⟩::rest) env H K:=
 TO.zkQ hd hx hH hy hl hk hs (fun w hw=>by rw[hg]at hw;cases hw) (fun _=>k1)
end
theorem retB{n c':Int}{N:Nat}{v:SV}(h0:c'≠0)(hc:c'=c)(hN:Nat.ble N H.length=true):
  ziZ (RetK tab rs N (Err0 c v (zcu n q c) H1 N)) (.panic (zcu n q c')) env H:=retS h0 hc (qaj hN)
theorem zng(p:Prog)(hp:p.nodes.length≤1000000000)(hq:∀u∈p.nodes,u.ins.length≤1000000000/\u.outs.length≤1000000000)(a q:Int)(seen:List (Int×Str×Int))(hse:zaV seen)(hsn:zcr p seen)(node left:Int)(x:Ex)(hv:x.v.1=0\/x.v.1=1)(hno:x.name.length≤1000000000):
  Sound Tryz.prog 166 [.ref 0 0,.i node,.t (.ag (exC x)),.i left] [lkB p a q,zb8 seen] (Err (zlx p seen node left x) (.tup []) (zcu a q (zlx p seen node left x)) [lkB p a q,zb8 seen]):=by
 have hml:(p.nodes.map nodT).length=p.nodes.length:=qac _;have hmx:(x.args.map exT).length=x.args.length:=qac _;unfold zlx exC;cases hg:zaB seen 1 x.name with
 | none=>
   simp only[];refine Sound.err rfl (fun _=>rfl) ?_;refine so Tryz.func166 ?_;refine TR.dead ?_;repeat' (first|refine wkt ?_|refine wka ?_|refine wkD ?_|refine wk ?_|exact wkc|refine wk2 ?_ ?_|refine wsx ?_|refine wms ?_|refine wsy ?_ ?_|(apply TO.zwE;(iterate 4 exact rfl);assumption;assumption;decide;assumption)|intro hc)
   (apply retB;decide;rfl;exact rfl)
 | some i=>
   obtain⟨hi0,hi1⟩:=hsn _ _ hg;simp only[];by_cases hin:i<node
   ·rw[oG hin];obtain⟨k,rfl⟩:∃k:Nat,i=k:=⟨i.toNat,oA⟩;have hk:k<p.nodes.length:=oA
    have hat:(p.nodes.map nodT)[((k:Int)).toNat]?=some (.ag (nodC p.nodes[k])):=zou hk;have hat2:p.nodes[((k:Int)).toNat]?=some p.nodes[k]:=qad hk;rw[hat2];have hqk:=hq _ (qak hk);generalize p.nodes[k]=u at*;have m1:(u.ins.map zak).length=u.ins.length:=qac _;have m2:(u.outs.map zak).length=u.outs.length:=qac _;simp only[];unfold nodC at hat;refine Sound.err rfl (fun _=>rfl) ?_;refine so Tryz.func166 ?_;refine TR.dead ?_;repeat' (first|refine wkt ?_|refine wka ?_|refine wkD ?_|refine wk ?_|exact wkc|refine wk2 ?_ ?_|refine wsx ?_|refine wms ?_|refine wsy ?_ ?_|(apply TO.zye;(iterate 4 exact rfl);assumption;assumption;decide;assumption)|intro hc)
    ·exact zmr (by clear hat;simp;omega) rfl rfl rfl rfl
    ·(apply retB;decide;(clear hat;rw[oH oF,oG oA]);exact rfl)
    ·(apply retB;decide;(clear hat;rw[oG oF]);exact rfl)
   ·rw[oH hin];refine Sound.err rfl (fun _=>rfl) ?_;refine so Tryz.func166 ?_;refine TR.dead ?_;repeat' (first|refine wkt ?_|refine wka ?_|refine wkD ?_|refine wk ?_|exact wkc|refine wk2 ?_ ?_|refine wsx ?_|refine wms ?_|refine wsy ?_ ?_|(apply TO.zye;(iterate 4 exact rfl);assumption;assumption;decide;assumption)|intro hc)
    (apply retB;decide;rfl;exact rfl)
def zfz(p:Prog)(seen:List (Int×Str×Int))(node:Int)(vis:List Str)(left:Int)(x:Ex):Int:=
 if x.kind.1=2\/x.kind.1=8\/x.kind.1=9 then(if x.name∈vis then 0 else 6) else if x.kind.1=10 then zlx p seen node left x else 0
def zea(p:Prog)(seen:List (Int×Str×Int))(node:Int)(vis:List Str)(left:Int)(e:Ex):Int:=orE (zfz p seen node vis left e) (zad (zfz p seen node vis 1) (flats e.args))
def lf(left:Int)(pre:List Ex):Int:=if pre=[] then left else 1
theorem zzu(left:Int)(pre:List Ex)(x:Ex):lf left (pre++[x])=1:=by simp[lf]
def panF(g:Int->Ex->Int)(left n q:Int)(Hd:Int->Heap)(pre:List Ex)(x:Ex):Out:=if g (lf left pre) x=0 then .go else .panic (zcu n q (g (lf left pre) x)) (Hd (lf left pre))
theorem zs6(g:Int->Ex->Int)(left n q:Int)(Hd:Int->Heap):∀(l pre:List Ex),pre≠ []->zbo (panF g left n q Hd) pre l=if zad (g 1) l=0 then .go else .panic (zcu n q (zad (g 1) l)) (Hd 1)
 | [],pre,_=>by simp[zbo,zad]
 | x::l,pre,hp=>by
   have h1:lf left pre=1:=by simp[lf,hp]
   simp only[zbo,panF,zad,h1];by_cases h:g 1 x=0
   ·exact zwff
   ·simp[h]
theorem zu1(g:Int->Ex->Int)(left n q:Int)(Hd:Int->Heap)(x:Ex)(l:List Ex):zbo (panF g left n q Hd) [] (x::l)=if g left x=0 then(if zad (g 1) l=0 then .go else .panic (zcu n q (zad (g 1) l)) (Hd 1)) else .panic (zcu n q (g left x)) (Hd left):=by
 have h1:lf left []=left:=by simp[lf]
 simp only[zbo,panF,h1];by_cases h:g left x=0
 ·exact zwff
 ·simp[h]
structure zgT (p:Prog):Prop where
 nodes:p.nodes.length≤1000000000
 each:∀u∈p.nodes,u.ins.length≤1000000000/\u.outs.length≤1000000000
def ExOk(x:Ex):Prop:=(x.kind.1=10->x.v.1=0\/x.v.1=1)/\x.name.length≤1000000000
theorem zeK (p:Prog) (hp:zgT p) (n q:Int) (seen:List (Int×Str×Int)) (hse:zaV seen) (hsn:zcr p seen) (node left:Int) (h:Ch) (hk:h.ok) (e:Ex) (hw:wEx e≤1000000000) (hex:∀x∈flat e,ExOk x):
  SS 143 [.i node,.ref h.id 0,.t (.ag (exC e)),.i left] p n q seen h h (zea p seen node h.vis left e):=by
 revert hk;revert h;refine Ch.lt fun h=>?_
 cases h
 all_goals
  intro g hk;have hs:=zdQ e;rw[zan]at hs;have hc0:exC e=[T.n e.kind,T.n e.op,T.n e.t,T.n e.v,.s e.name,.sl 6 (e.args.map exT)]:=rfl;rw[hc0]at hs⊢;have hz:zea p seen node (g.vis) left e=zea p seen node (g.vis) left e:=rfl
  conv at hz=>rhs;unfold zea orE
  generalize zea p seen node (g.vis) left e=z at hz⊢;refine Sound.err rfl (fun _=>rfl) ?_;refine so Tryz.func143 ?_;refine TR.dead ?_;repeat' (first|refine wu ?_|exact wkc|refine wk2 ?_ ?_|refine wv hs ?_|intro hc)
  refine TR.zeV e (fun pre=>(full p n q seen g)++[.cells [.ref 0 0],.cells [.i node],.cells [.ref g.id 0],.cells [.t (T.n e.kind),.t (T.n e.op),.t (T.n e.t),.t (T.n e.v),.t (.s e.name),.t (.sl 6 (e.args.map exT))],.cells [.i (lf left pre)]]) (panF (zfz p seen node (g.vis)) left n q (fun u=>.dead:: .dead::((g.heap)++[.cells [.ref 0 0],.cells [.i node],.cells [.ref g.id 0],.cells [.t (T.n e.kind),.t (T.n e.op),.t (T.n e.t),.t (T.n e.v),.t (.s e.name),.t (.sl 6 (e.args.map exT))],.cells [.i u]]))) rfl hw ?_ rfl rfl (fun _=>⟨rfl,rfl⟩) (fun pre x=>?_) (fun fn pre x post hsp=>?_) (fun fn=>?_)
  ·rw[show lf left []=left from rfl];rfl
  ·unfold panF;split <;> rename_i hq <;> split at hq <;> cases hq
   ·trivial
   ·exact⟨rfl,rfl,rfl⟩
  ·have hxk:=hex x (by rw[hsp];simp);have hno:=hxk.2;have hcx:exC x=[T.n x.kind,T.n x.op,T.n x.t,T.n x.v,.s x.name,.sl 6 (x.args.map exT)]:=rfl;have hcal:=fun hv=>zng p hp.nodes hp.each n q seen hse hsn node (lf left pre) x hv hno
   have ho:zfz p seen node (g.vis) (lf left pre) x=zfz p seen node (g.vis) (lf left pre) x:=rfl
   conv at ho=>rhs;unfold zfz
   have hpf:panF (zfz p seen node (g.vis)) left n q (fun u=>.dead:: .dead::((g.heap)++[.cells [.ref 0 0],.cells [.i node],.cells [.ref g.id 0],.cells [.t (T.n e.kind),.t (T.n e.op),.t (T.n e.t),.t (T.n e.v),.t (.s e.name),.t (.sl 6 (e.args.map exT))],.cells [.i u]])) pre x=if zfz p seen node (g.vis) (lf left pre) x=0 then .go else .panic (zcu n q (zfz p seen node (g.vis) (lf left pre) x)) (.dead:: .dead::((g.heap)++[.cells [.ref 0 0],.cells [.i node],.cells [.ref g.id 0],.cells [.t (T.n e.kind),.t (T.n e.op),.t (T.n e.t),.t (T.n e.v),.t (.s e.name),.t (.sl 6 (e.args.map exT))],.cells [.i (lf left pre)]])):=rfl
   have hla:=zzu left pre x;generalize panF (zfz p seen node (g.vis)) left n q (fun u=>.dead:: .dead::((g.heap)++[.cells [.ref 0 0],.cells [.i node],.cells [.ref g.id 0],.cells [.t (T.n e.kind),.t (T.n e.op),.t (T.n e.t),.t (T.n e.v),.t (.s e.name),.t (.sl 6 (e.args.map exT))],.cells [.i u]]))=pf at*;generalize zfz p seen node (g.vis) (lf left pre) x=z1 at*;generalize lf left pre=lv at*;rw[hcx]at hcal⊢;have hq:x.kind.1=10\/x.kind.1≠10:=oA
   rcases hq with hq|hq
   ·have hcal:=hcal (hxk.1 hq);rw[oH oA,oG hq]at ho;rw[<-ho]at hcal;repeat' (first|refine wu ?_|exact wkc|refine wk2 ?_ ?_|intro hc)
    refine⟨rfl,?_⟩;repeat' (first|refine wkt ?_|refine wka ?_|refine wkD ?_|refine wk ?_|exact wkc|refine wk2 ?_ ?_|refine wsx ?_|refine wms ?_|refine wsy ?_ ?_|refine we hcal ?_ ?_|intro hc)
    ·exact⟨by rw[hpf,oG hc],by simp only[hla];rfl,rfl⟩
    ·exact⟨_,by rw[hpf,oH hc];rfl,rfl,rfl⟩
   ·clear hcal;repeat' (first|refine wu ?_|exact wkc|refine wk2 ?_ ?_|intro hc)
    refine⟨rfl,?_⟩;by_cases hm:x.name∈g.vis
    ·rw[oG hm]at ho;repeat' (first|refine wkt ?_|refine TR.zkN (envF:=_) (g:=True) [(.ref 0 0,false),(.ref g.id 0,false),(.cp [T.n x.kind,T.n x.op,T.n x.t,T.n x.v,.s x.name,.sl 6 (x.args.map exT)] 4,false),(.s x.name,false),(.b true,true),(.tup [],true)] hmix (by dsimp only[List.map];decide +kernel) ?_ rfl oB ?_|refine wk ?_|exact wkc|refine wk2 ?_ ?_|exact qav (qav rfl rfl) trivial|refine qav (fun env=>?_) ?_|exact trivial|exact oI hm hc|exact oI hc hm|exact(fun hf=>hf.elim)|refine wms ?_|(apply TO.sees hk;(iterate 3 exact rfl);assumption)|intro hc)
     all_goals exact⟨by rw[hpf,if_pos (by rw[ho];clear hpf hs;grind)],by simp only[hla];rfl,rfl⟩
    ·rw[oH hm]at ho;repeat' (first|refine wkt ?_|refine TR.zkN (envF:=_) (g:=False) [(.ref 0 0,false),(.ref g.id 0,false),(.cp [T.n x.kind,T.n x.op,T.n x.t,T.n x.v,.s x.name,.sl 6 (x.args.map exT)] 4,false),(.s x.name,false),(.b false,true),(.tup [],true)] hmix (by dsimp only[List.map];decide +kernel) ?_ rfl oB ?_|refine wk ?_|exact wkc|refine wk2 ?_ ?_|exact qav (qav rfl rfl) trivial|refine qav (fun env=>?_) ?_|exact trivial|exact oI hm hc|exact oI hc hm|exact(fun hf=>hf.elim)|refine wms ?_|(apply TO.sees hk;(iterate 3 exact rfl);assumption)|intro hc)
     all_goals first
      | exact⟨by rw[hpf,if_pos (by rw[ho];clear hpf hs;grind)],by simp only[hla];rfl,rfl⟩
      | (have h6:z1=6:=by rw[ho];clear hpf hs;grind
         rw[h6,oH oB]at hpf;exact⟨_,by rw[hpf];rfl,rfl,rfl⟩)
  ·rw[zb2,zu1];by_cases z1:zfz p seen node (g.vis) left e=0
   ·rw[oG z1]at hz⊢;by_cases z2:zad (zfz p seen node (g.vis) 1) (flats e.args)=0
    ·rw[oG z2];simp only[];rw[z2]at hz;refine ya ?_;exact zmr hz rfl rfl rfl rfl
    ·rw[oH z2];simp only[]
     (repeat' (first|refine zac.panic ?_|refine wk ?_|fail))
     exact retB z2 hz.symm rfl
   ·rw[oH z1]at hz⊢;simp only[]
    (repeat' (first|refine zac.panic ?_|refine wk ?_|fail))
    exact retB z1 hz.symm rfl
theorem Ch.app(h h':Ch)(p:Prog)(n q n' q':Int)(seen seen':List (Int×Str×Int)):full p n' q' seen' h'++(full p n q seen h).drop h.N=full p n' q' seen' h':=by
 rw[qa2 (by rw[Ch.len];exact qag _),qaz]
theorem Ch.nb1(h:Ch):Nat.blt 0 h.N=true:=by cases h <;> rfl
theorem Ch.nb2(h:Ch):Nat.blt h.id h.N=true:=by cases h <;> rfl
section
variable {n:Nat}{pos:String}{q a' q':Int}{seen':List (Int×Str×Int)}{H2:Heap}{args:Array Operand}
theorem TO.zAz{v:SV}
  (hs:Sound Tryz.prog fid cargs (full p a q seen h) (Err c v pv (full p a' q' seen' h')))(hn:h'.N=h.N)(hd:Nat.ble (d+1) n=true)(hf:env.val f=some (.fn fid caps))(ha:env.vals args.toList=some vs)(hl:Les (vs++caps) cargs)
  (hH:H.take h.N=full p a q seen h)(hu:unders h.N cargs=true)(hv:v.under h.N=true)(hpv:pv.under h.N=true)(hH2:full p a' q' seen' h'++H.drop h.N=H2)
  (k:c=0->TO false Tryz.prog n all rest ((d,v)::env) H2 K)(kp:c≠0->K (.panic pv) env (List.replicate h.N .dead++H.drop h.N)):
  TO false Tryz.prog n all (⟨some d,.call { callee:=.value f,args:=args,argTypes:=ts },ty,pos,aft,none⟩::rest) env H K:=by
 have hN:h.N≤H.length:=by have:=oJ List.length hH;rw[Ch.len]at this;simp at this;omega
 exact TO.zly h.N hs hd hf ha hl (by simpa using hN) hH hu (Ch.under h p a q seen) hv hpv ((Ch.len h' p a' q' seen').trans hn) (by have:=Ch.under h' p a' q' seen';rw[hn]at this;exact this) (by rw[<-hH2,zbn]) k kp
end
theorem wss{G Q1 Q2:Prop}{f:FuncId}{v:SV}{a' q':Int}{seen':List (Int×Str×Int)}(hs:Sound Tryz.prog f cargs (full p a q seen h) (Err c v pv (full p a' q' seen' h')))(k1:Q1)(k2:Q2)
  (hh:Sound Tryz.prog f cargs (full p a q seen h) (Err c v pv (full p a' q' seen' h'))->Hold Q1->Hold Q2->G:=by
  intro hs k1 k2
  (apply Go.Proofs.YtdicfgideclbdaaGreatDoor.TO.zAz hs;(first|exact rfl|simp);(iterate 3 exact rfl);exact zqa;(first|exact rfl|exact Go.Proofs.YtdicfgideclbdaaGreatDoor.Ch.tk _ _ _ _ _);(first|exact rfl|(simp only[unders,SV.under,Go.Proofs.YtdicfgideclbdaaGreatDoor.Ch.nb1,Go.Proofs.YtdicfgideclbdaaGreatDoor.Ch.nb2,Bool.and_self]));exact rfl;exact rfl;(first|exact Go.Proofs.YtdicfgideclbdaaGreatDoor.Ch.app _ _ _ _ _ _ _ _ _|exact rfl);exact k1.p;exact k2.p)):G:=hh hs ⟨k1⟩ ⟨k2⟩
def zrD(p:Prog)(seen:List (Int×Str×Int))(node:Int)(vis:List Str)(l:List Tran):Int:=zad (fun t=>zea p seen node vis 1 t.cond) l
theorem zjt(p:Prog)(hp:zgT p)(n q:Int)(seen:List (Int×Str×Int))(hse:zaV seen)(hsn:zcr p seen)(node:Int)(h:Ch)(hk:h.ok)(l:List Tran)(hw:(T.sl 8 (l.map zaA)).w≤1000000000)(hex:∀t∈l,∀x∈flat t.cond,ExOk x):
  SS 168 [.i node,.ref h.id 0,.t (.sl 8 (l.map zaA))] p n q seen h h (zrD p seen node h.vis l):=by
 have hml:(l.map zaA).length=l.length:=qac _;have hlb:l.length≤1000000000:=qax (qb5 (zaD zaA 8 l)) hw;unfold zrD;refine Sound.err rfl (fun _=>rfl) ?_;refine so Tryz.func168 ?_;refine TR.dead ?_;repeat' (first|refine wu ?_|exact wkc|refine wk2 ?_ ?_|intro hc)
 refine TR.zaz l.length (fun k=>zad (fun t=>zea p seen node h.vis 1 t.cond) (l.take k)=0) (fun k=>[(0,.ref 0 0),(1,.i node),(2,.ref h.id 0),(10,.t (.sl 8 (l.map zaA))),(11,.i (l.map zaA).length),(12,.i k)]) (fun _=>full p n q seen h) rfl (fun k hlt ha=>?_) (fun ha=>?_)
 ·have hx:=zm9 hlt;have g1:=zaJ (f:=fun t=>zea p seen node h.vis 1 t.cond) hlt ha;have g2:=zax (f:=fun t=>zea p seen node h.vis 1 t.cond) hlt ha;have hwx:=zaY (f:=zaA) (sz:=8) (qak hlt);have hs:=zeK p hp n q seen hse hsn node 1 h hk l[k].cond (by have:=zlc (t:=l[k]);omega) (hex _ (qak hlt));generalize l[k]=x at*;generalize zea p seen node h.vis 1 x.cond=z at*;unfold zmO at hx;unfold exC at hs;repeat' (first|refine wkt ?_|refine wka ?_|refine wkD ?_|refine wk ?_|exact wkc|refine wk2 ?_ ?_|refine wsx ?_|refine wms ?_|refine wsy ?_ ?_|refine wss hs ?_ ?_|intro hc)
  ·exact zac.zaH hlt (g2 hc)
  ·((repeat' (first|refine zac.panic ?_|refine wk ?_|fail));apply retS;(first|assumption|decide);(clear hx hs;first|grind|grind [orE]);(first|exact leB|exact Nat.le_refl _|(simp[Ch.len];done)|(simp[Ch.len];omega)))
 ·exact zwce
def Lv.zdF(a:Lv)(s:Str):Lv:={ a with done:=ins a.done s,defs:=a.defs++[s] }
theorem Lv.ok.zdF{a:Lv}(h:a.ok){s:Str}(hs:s.length≤1000000000):(a.zdF s).ok:=⟨h.own,h.done.ins hs⟩
def zdm(vis low:List Str)(a:Lv)(s:Str):Lv×Int:=(a.zdF s,if s∈vis then(if s∈low\/s∈a.done then 7 else 0) else 6)
def equS(p:Prog)(seen:List (Int×Str×Int))(node:Int)(vis0 low:List Str)(a:Lv)(u:Equ):Lv×Int:=
 ((zag (zdm (vis0++a.own) low) a u.left).1,orE (zag (zdm (vis0++a.own) low) a u.left).2 (zea p seen node (vis0++a.own) u.left.length u.right))
theorem zvY{u:Equ}{s:Str}(h:s∈u.left):s.length≤(equT u).w:=by
 have h1:=zaY (f:=T.s) (sz:=1) h;rw[w_s]at h1;rw[show equT u= .ag (.sl 1 (u.left.map T.s)::exC u.right) from rfl,w_ag,qaf,qaG];omega
theorem zlI(p:Prog)(hp:zgT p)(n q:Int)(seen:List (Int×Str×Int))(hse:zaV seen)(hsn:zcr p seen)(node:Int)(h:Ch)(hne:h.N≠5)(hk0:h.ok)(u:Equ)(hw:(equT u).w≤1000000000)(hdl:h.top.defs.length+u.left.length≤2000000000)(hex:∀x∈flat u.right,ExOk x):
  SS 104 [.i node,.ref h.id 0,.t (.ag (equC u))] p n q seen h (h.set (equS p seen node h.vis0 h.low h.top u).1) (equS p seen node h.vis0 h.low h.top u).2:=by
 have hset:=fun{x:Lv} (hx:x.ok)=>Ch.zsI hk0 hx
 have ht0:=Ch.zsJ hk0;clear hk0;revert hne hdl hset ht0;revert h;refine Ch.lt fun h=>?_
 cases h
 case one=>intro g hne;exact oI rfl hne
 all_goals
  intro g hne hdl hset ht0;clear hne;have hml:(u.left.map T.s).length=u.left.length:=qac _;have hlb:u.left.length≤1000000000:=qax ze9 hw;have hwl:∀s∈u.left,s.length≤1000000000:=fun s hs=>qax (zvY hs) hw
  have hwe:=qax (ztQ (q:=u)) hw;unfold equS equC;refine Sound.err rfl (fun _=>rfl) ?_;refine so Tryz.func104 ?_;refine TR.dead ?_;repeat' (first|refine wu ?_|exact wkc|refine wk2 ?_ ?_|intro hc)
  refine TR.zaz u.left.length (fun k=>(zag (zdm (g.vis0++g.top.own) g.low) g.top (u.left.take k)).2=0/\(zag (zdm (g.vis0++g.top.own) g.low) g.top (u.left.take k)).1.ok/\(zag (zdm (g.vis0++g.top.own) g.low) g.top (u.left.take k)).1.own=g.top.own/\(zag (zdm (g.vis0++g.top.own) g.low) g.top (u.left.take k)).1.defs.length=g.top.defs.length+k) (fun k=>[(0,.ref 0 0),(1,.i node),(2,.ref g.id 0),(7,.cp [.sl 1 (u.left.map T.s),T.n u.right.kind,T.n u.right.op,T.n u.right.t,T.n u.right.v,.s u.right.name,.sl 6 (u.right.args.map exT)] 0),(11,.t (.sl 1 (u.left.map T.s))),(12,.i (u.left.map T.s).length),(13,.i k)]) (fun k=>full p n q seen (g.set (zag (zdm (g.vis0++g.top.own) g.low) g.top (u.left.take k)).1)) ⟨rfl,ht0,rfl,rfl⟩ (fun k hlt ha=>?_) (fun ha=>?_)
  ·have hx:=at_s hlt;have hno:=hwl _ (qak hlt);have g1:=zcI (f:=(zdm (g.vis0++g.top.own) g.low)) hlt ha.1;have g2:=zbB (f:=(zdm (g.vis0++g.top.own) g.low)) hlt ha.1;obtain⟨ha1,ha2,ha3,ha4⟩:=ha;generalize (zag (zdm (g.vis0++g.top.own) g.low) g.top (u.left.take k)).1=st at*;generalize u.left[k]=x at*;have hk:=hset ha2;have hdn:=ha2.done;have hz:((zdm (g.vis0++g.top.own) g.low) st x).2=if x∈g.vis0++g.top.own then(if x∈g.low\/x∈st.done then 7 else 0) else 6:=rfl
   have hz1:((zdm (g.vis0++g.top.own) g.low) st x).1=st.zdF x:=rfl;have hok:=ha2.zdF hno;have hl1:(st.defs.map T.s).length=st.defs.length:=qac _;have hma:(st.defs++[x]).map T.s=st.defs.map T.s++[T.s x]:=oC
   generalize hfx:(zdm (g.vis0++g.top.own) g.low) st x=fx at*;repeat' (first|refine wkt ?_|refine wka ?_|refine wkD ?_|refine wk ?_|exact wkc|refine wk2 ?_ ?_|refine wsx ?_|refine wms ?_|refine wsy ?_ ?_|(apply TO.zgo zaf;(iterate 9 exact rfl);(exact qbD _);(iterate 4 exact rfl);(simp only[qae,qal];omega);exact rfl)|intro hc)
   all_goals simp only[Ch.vis,Ch.zkS,Ch.zn0,Ch.zyg]at*
   all_goals first
    | ((repeat' (first|refine zac.panic ?_|refine wk ?_|fail));apply retS;(first|assumption|decide);(clear hx;first|grind|grind [orE]);(first|exact leB|exact Nat.le_refl _|(simp[Ch.len];done)|(simp[Ch.len];omega)))
    | (refine zac.zaH hlt ⟨by rw[g2];clear hx;grind,by rw[g2,hz1];exact hok,by rw[g2,hz1];exact ha3,by rw[g2,hz1];simp[Lv.zdF,ha4];omega⟩ ?_ (by rw[g2,hz1];simp only[g,full,Ch.set,Ch.heap,Lv.zdF,nmB,rowB,hma];rfl)
       repeat' (first|exact trivial|refine qav rfl ?_|fail))
  ·obtain⟨ha1,ha2,ha3,ha4⟩:=ha;rw[qap]at*;have hk:=hset ha2;have hs:=zeK p hp n q seen hse hsn node u.left.length (g.set (zag (zdm (g.vis0++g.top.own) g.low) g.top u.left).1) hk u.right hwe hex;have hvis:Ch.vis (g.set (zag (zdm (g.vis0++g.top.own) g.low) g.top u.left).1)=g.vis0++g.top.own:=by simp only[Ch.vis,Ch.zkS,Ch.zn0,ha3]
   rw[hvis,<-hml]at hs;rw[<-hml];unfold exC at hs;generalize zea p seen node (g.vis0++g.top.own) ((u.left.map T.s).length:Int) u.right=z at*;generalize zag (zdm (g.vis0++g.top.own) g.low) g.top u.left=st at*;repeat' (first|refine wkt ?_|refine wka ?_|refine wkD ?_|refine wk ?_|exact wkc|refine wk2 ?_ ?_|refine wsx ?_|refine wms ?_|refine wsy ?_ ?_|refine wss hs ?_ ?_|intro hc)
   ·exact zmr (by clear hs;rw[ha1];simp[orE,hc]) rfl rfl rfl rfl
   ·(apply retB;assumption;(clear hs;rw[ha1];simp[orE]);exact rfl)
theorem zjg(x s:Sta):Pure Tryz.prog 145 [.t (staT x),.cp (staC s) 0] (.b (x.name == s.name)):=by
 rw[zmC];unfold staC;refine so Tryz.func145 ?_;repeat' (first|refine wu ?_|exact wkc|refine wk2 ?_ ?_|intro hc)
 all_goals
  refine RetK.pure rfl (Le.of_eq ?_) rfl;refine oJ (fun b=>SV.t (T.v (Value.bool b))) ?_;simp[hc]
theorem zi7(fid:FuncId)(caps:List SV)(hcaps:unders 0 caps=true)(p:Sta->Bool)(l:List Sta)(hl:l.length≤1000000000)(hp:∀d,Pure Tryz.prog fid (.t (staT d)::caps) (.b (p d))):
  Pure Tryz.prog 167 [.t (.sl 6 (l.map staT)),.fn fid caps] (.i (idxI p l)):=by
 have hml:(l.map staT).length=l.length:=qac _;refine so Tryz.func167 ?_;repeat' (first|refine wk ?_|exact wkc|refine wk2 ?_ ?_|intro hc)
 refine TR.zaz l.length (fun k=>(l.take k).all (fun x=>!p x)=true) (fun k=>[(0,.t (.sl 6 (l.map staT))),(1,.fn fid caps),(7,.i l.length),(8,.i k)]) (fun _=>[]) rfl (fun k hlt ha=>?_) (fun ha=>?_) ⟨rfl,rfl,by rw[<-hml];rfl,rfl,trivial⟩
 ·have hx:=zbc staT hlt;have htk:=zbg hlt;have hat:=zfx p l k hlt ha;have hd:=hp l[k];generalize l[k]=d at hx htk hat hd;rw[zmC]at hx hd;have hu:unders 0 (.t (.ag (staC d))::caps)=true:=by simp[unders,SV.under,hcaps]
  unfold staC at*;repeat' (first|refine wk ?_|exact wkc|refine wk2 ?_ ?_|(apply TO.zgs hd;(iterate 3 exact rfl);exact Les.refl _;exact hu;exact rfl)|intro hc)
  ·rw[hat hc];exact wkr
  ·exact zwfm
 ·exact zwev
theorem zhv(p:α->Bool)(l:List α):decide (0≤idxI p l)=l.any p:=by
 rcases zgy p l with h|⟨k,hk,h,hp⟩
 ·rw[h];symm;cases ha:l.any p with
  | false=>rfl
  | true=>
    exfalso
    have:∀l:List α,l.any p=true->0≤idxI p l:=by
     intro l
     induction l with
     | nil=>intro h;simp at h
     | cons x l ih=>
       intro h;unfold idxI;by_cases hx:p x=true
       ·rw[oG hx];omega
       ·rw[oH hx]
        have:=ih (by simpa [hx]using h)
        rw[oH oA];omega
    have:=this l ha
    omega
 ·rw[h]
  have:l.any p=true:=qcH.2 ⟨_,qak hk,hp⟩
  rw[this];simp
theorem zi4(fid:FuncId)(caps:List SV)(hcaps:unders 0 caps=true)(p:Sta->Bool)(l:List Sta)(hl:l.length≤1000000000)(hp:∀d,Pure Tryz.prog fid (.t (staT d)::caps) (.b (p d))):
  Pure Tryz.prog 144 [.t (.sl 6 (l.map staT)),.fn fid caps] (.b (l.any p)):=by
 have hs:=zi7 fid caps hcaps p l hl hp;have ha:=zhv p l;generalize idxI p l=z at*;have hu:unders 0 [.t (.sl 6 (l.map staT)),.fn fid caps]=true:=by simp[unders,SV.under,hcaps]
 refine so Tryz.func144 ?_;repeat' (first|refine wk ?_|exact wkc|refine wk2 ?_ ?_|(apply TO.zgs hs;(iterate 3 exact rfl);exact Les.refl _;exact hu;exact rfl)|intro hc)
 all_goals
  refine RetK.pure rfl (Le.of_eq ?_) rfl;refine oJ (fun b=>SV.t (T.v (Value.bool b))) ?_;rw[<-ha];simp;omega
theorem zkz(l:List Str)(hl:l.length≤1000000000)(s:Str):Pure Tryz.prog 192 [.t (.sl 1 (l.map T.s)),.s s] (.i (idxI (fun x=>s == x) l)):=by
 have hml:(l.map T.s).length=l.length:=qac _;refine so Tryz.func192 ?_;repeat' (first|refine wk ?_|exact wkc|refine wk2 ?_ ?_|intro hc)
 refine TR.zaz l.length (fun k=>(l.take k).all (fun x=>!(s == x))=true) (fun k=>[(0,.t (.sl 1 (l.map T.s))),(1,.s s),(7,.i l.length),(8,.i k)]) (fun _=>[]) rfl (fun k hlt ha=>?_) (fun ha=>?_) ⟨rfl,rfl,by rw[<-hml];rfl,rfl,trivial⟩
 ·have hx:=at_s hlt;have htk:=zbg hlt;have hat:=zfx (fun x=>s == x) l k hlt ha;generalize l[k]=d at hx htk hat;repeat' (first|refine wk ?_|exact wkc|refine wk2 ?_ ?_|intro hc)
  ·rw[hat (by simp[hc])];exact wkr
  ·exact zwfm
 ·rw[qap]at ha;rw[zfZ _ l ha];refine yd ?_;exact wkr
theorem zh2(l:List Str)(hl:l.length≤1000000000)(s:Str):Pure Tryz.prog 173 [.t (.sl 1 (l.map T.s)),.s s] (.b (decide (s∈l))):=by
 have hs:=zkz l hl s;have ha:=zhv (fun x=>s == x) l
 have hm:(l.any fun x=>s == x)=decide (s∈l):=by
  rw[Bool.eq_iff_iff];simp
 rw[hm]at ha;generalize idxI (fun x=>s == x) l=z at*;refine so Tryz.func173 ?_;repeat' (first|refine wk ?_|exact wkc|refine wk2 ?_ ?_|refine wv hs ?_|intro hc)
 all_goals
  refine RetK.pure rfl (Le.of_eq ?_) rfl;refine oJ (fun b=>SV.t (T.v (Value.bool b))) ?_;rw[<-ha];simp;omega
theorem zlg(b:List Str)(hb:b.length≤1000000000)(x:Str):Pure Tryz.prog 172 [.s x,.cp [.sl 1 (b.map T.s)] 0] (.b (!decide (x∈b))):=by
 have hs:=zh2 b hb x;refine so Tryz.func172 ?_;repeat' (first|refine wu ?_|exact wkc|refine wk2 ?_ ?_|refine wb hs ?_ ?_|intro hc)
 all_goals
  refine RetK.pure rfl (Le.of_eq ?_) rfl;refine oJ (fun b=>SV.t (T.v (Value.bool b))) ?_;rw[hc]
theorem zqw(fid:FuncId)(caps:List SV)(hcaps:unders 0 caps=true)(p:Str->Bool)(l:List Str)(hl:l.length≤1000000000)(hp:∀d,Pure Tryz.prog fid (.s d::caps) (.b (p d))):
  Pure Tryz.prog 191 [.t (.sl 1 (l.map T.s)),.fn fid caps] (.i (idxI p l)):=by
 have hml:(l.map T.s).length=l.length:=qac _;refine so Tryz.func191 ?_;repeat' (first|refine wk ?_|exact wkc|refine wk2 ?_ ?_|intro hc)
 refine TR.zaz l.length (fun k=>(l.take k).all (fun x=>!p x)=true) (fun k=>[(0,.t (.sl 1 (l.map T.s))),(1,.fn fid caps),(7,.i l.length),(8,.i k)]) (fun _=>[]) rfl (fun k hlt ha=>?_) (fun ha=>?_) ⟨rfl,rfl,by rw[<-hml];rfl,rfl,trivial⟩
 ·have hx:=at_s hlt;have htk:=zbg hlt;have hat:=zfx p l k hlt ha;have hd:=hp l[k];generalize l[k]=d at hx htk hat hd;have hu:unders 0 (.s d::caps)=true:=by simp[unders,SV.under,hcaps]
  repeat' (first|refine wk ?_|exact wkc|refine wk2 ?_ ?_|(apply TO.zgs hd;(iterate 3 exact rfl);exact Les.refl _;exact hu;exact rfl)|intro hc)
  ·rw[hat hc];exact wkr
  ·exact zwfm
 ·exact zwev
theorem zqk(fid:FuncId)(caps:List SV)(hcaps:unders 0 caps=true)(p:Str->Bool)(l:List Str)(hl:l.length≤1000000000)(hp:∀d,Pure Tryz.prog fid (.s d::caps) (.b (p d))):
  Pure Tryz.prog 171 [.t (.sl 1 (l.map T.s)),.fn fid caps] (.b (l.any p)):=by
 have hs:=zqw fid caps hcaps p l hl hp;have ha:=zhv p l;generalize idxI p l=z at*;have hu:unders 0 [.t (.sl 1 (l.map T.s)),.fn fid caps]=true:=by simp[unders,SV.under,hcaps]
 refine so Tryz.func171 ?_;repeat' (first|refine wk ?_|exact wkc|refine wk2 ?_ ?_|(apply TO.zgs hs;(iterate 3 exact rfl);exact Les.refl _;exact hu;exact rfl)|intro hc)
 all_goals
  refine RetK.pure rfl (Le.of_eq ?_) rfl;refine oJ (fun b=>SV.t (T.v (Value.bool b))) ?_;rw[<-ha];simp;omega
def zoo(a b:List Str):Bool:=decide (a.length=b.length) && !(a.any fun x=>!decide (x∈b))
theorem zm4(a b:List Str)(ha:a.length≤1000000000)(hb:b.length≤1000000000):Pure Tryz.prog 147 [.t (.sl 1 (a.map T.s)),.t (.sl 1 (b.map T.s))] (.b (zoo a b)):=by
 have hs:=zqk 172 [.cp [.sl 1 (b.map T.s)] 0] rfl (fun x=>!decide (x∈b)) a ha (fun x=>zlg b hb x);have m1:(a.map T.s).length=a.length:=qac _;have m2:(b.map T.s).length=b.length:=qac _;unfold zoo;generalize (a.any fun x=>!decide (x∈b))=z at*;cases z
 all_goals
  refine so Tryz.func147 ?_;repeat' (first|refine wu ?_|exact wkc|refine wk2 ?_ ?_|(apply TO.zgs hs;(iterate 3 exact rfl);exact Les.refl _;exact rfl;exact rfl)|intro hc)
  all_goals
   refine RetK.pure rfl (Le.of_eq ?_) rfl;refine oJ (fun b=>SV.t (T.v (Value.bool b))) ?_;clear hs
   first
   | (simp;omega)
   | (rw[decide_eq_true oA];rfl)
   | (rw[decide_eq_false oA];rfl)
abbrev zv3 (up:SV)(b:Nat):Heap:=[setB [],setB [],.cells [up,.mp b,.mp (b+1),nilM,nilS]]
theorem zl1(p:Prog)(n q:Int)(seen:List (Int×Str×Int)):
  Sound Tryz.prog 100 [nilP] [lkB p n q,zb8 seen] (fun r H'=>r= .ret (.ref 4 0)/\H'=lkB p n q::zb8 seen::zv3 nilP 2):=by
 refine so Tryz.func100 ?_;refine wk ?_;exact RetK.keep 5 rfl (Le.refl _) rfl rfl rfl rfl rfl ⟨rfl,rfl⟩
theorem zsg(p:Prog)(n q:Int)(seen:List (Int×Str×Int))(h:Ch):
  Sound Tryz.prog 100 [.ref h.id 0] (full p n q seen h) (fun r H'=>r= .ret (.ref (h.N+2) 0)/\H'=full p n q seen h++zv3 (.ref h.id 0) h.N):=by
 cases h
 case one a=>
  refine so Tryz.func100 ?_;refine wk ?_;exact RetK.keep 8 rfl (Le.refl _) rfl rfl rfl rfl rfl ⟨rfl,rfl⟩
 case c1=>
  refine so Tryz.func100 ?_;refine wk ?_;exact RetK.keep 10 rfl (Le.refl _) rfl rfl rfl rfl rfl ⟨rfl,rfl⟩
 case c2=>
  refine so Tryz.func100 ?_;refine wk ?_;exact RetK.keep 14 rfl (Le.refl _) rfl rfl rfl rfl rfl ⟨rfl,rfl⟩
 case c3=>
  refine so Tryz.func100 ?_;refine wk ?_;exact RetK.keep 18 rfl (Le.refl _) rfl rfl rfl rfl rfl ⟨rfl,rfl⟩
 case c4=>
  refine so Tryz.func100 ?_;refine wk ?_;exact RetK.keep 22 rfl (Le.refl _) rfl rfl rfl rfl rfl ⟨rfl,rfl⟩
abbrev znj (l:List Str):Blk:=.cells ((l.map T.s).map .t)
theorem zxf(h:k<l.length):((l.map T.s).map SV.t)[0+k*1]?=some (.s l[k]):=by simp[h]
def zbL(own:List Str)(l:List Str):List Str:=l.filter fun x=>!decide (x∈own)
theorem zei(own l:List Str):(zbL own l).length≤l.length:=qcP _ _
theorem ze8{own:List Str}(h:k<l.length):zbL own (l.take (k+1))=zbL own (l.take k)++(if l[k]∈own then[] else[l[k]]):=by
 unfold zbL;rw[qaE h,List.filter_append];by_cases hm:l[k]∈own <;> simp[hm]
theorem zl4{own:List Str}(h:l.all (fun x=>!decide (x∈own))=true):zbL own l=l:=by
 unfold zbL;rw[List.filter_eq_self];intro x hx;exact qaB.1 h x hx
def midS(own l:List Str)(k:Nat):List Str:=zbL own (l.take k)++l.drop (zbL own (l.take k)).length
theorem zpe(own l:List Str)(k:Nat):(midS own l k).length=l.length:=by
 unfold midS;have h1:=zei own (l.take k);have h2:(l.take k).length≤l.length:=oF
 simp;omega
theorem zxM{own:List Str}(h:k<l.length):(midS own l k)[k]?=some l[k]:=by
 unfold midS;have h1:=zei own (l.take k);have h2:(l.take k).length=k:=oF
 rw[qas oA,qbb,show(zbL own (l.take k)).length+(k-(zbL own (l.take k)).length)=k from oA];exact qad h
theorem zxN{own:List Str}(h:k<l.length)(hm:l[k]∈own):midS own l (k+1)=midS own l k:=by
 unfold midS;rw[ze8 h,oG hm,qaz]
theorem zuH{own:List Str}(h:k<l.length)(hm:l[k] ∉ own):midS own l (k+1)=(midS own l k).set (zbL own (l.take k)).length l[k]:=by
 have h1:=zei own (l.take k);have h2:(l.take k).length=k:=oF
 unfold midS;rw[ze8 h,oH hm];generalize zbL own (l.take k)=K at*;rw[qbS _ _ (qag _),qb6];cases hd:l.drop K.length with
 | nil=>
   have:=oJ List.length hd
   simp at this;omega
 | cons y r=>
   rw[qch]
   have hr:l.drop (K.length+1)=r:=by
    have:=oJ (List.drop 1) hd
    rw[qbX]at this;simpa using this
   rw[qab,qb2,hr];simp
theorem zqE{own:List Str}(hk:k<l.length)(ha:(l.take k).all (fun x=>!decide (x∈own))=true)(hm:l[k]∈own):midS own l (k+1)=l/\(zbL own (l.take (k+1))).length=k:=by
 have h2:(l.take k).length=k:=oF
 unfold midS;rw[ze8 hk,oG hm,qaz,zl4 ha,h2];exact⟨qaX k l,rfl⟩
theorem zi3{H0:Heap}(h:zaa k H0=true)(ts:List T):zaa k (H0++[.cells (ts.map .t)])=true:=zat h (zk9 k ts)
theorem zuC{own:List Str}(hk:k<l.length)(hm:l[k]∈own):(zbL own l).length<l.length:=by
 unfold zbL;refine List.length_filter_lt_length_iff_exists.2 ⟨l[k],qak hk,by simpa using hm⟩
theorem zqX(own l:List Str):splice (((midS own l l.length).map T.s).map SV.t) (0+(zbL own l).length*1) (List.replicate (l.length-(zbL own l).length) (.t (T.s [])))=((zbL own l++List.replicate (l.length-(zbL own l).length) []).map T.s).map .t:=by
 have h1:=zei own l;unfold splice midS;rw[qap];simp only[qaV,qcS,qb1];rw[<-qbB,<-qbB,qcB,qa2 oC,qaz];simp
abbrev outH (p:Prog)(n q:Int)(seen:List (Int×Str×Int))(h:Ch):Heap:=lkB p n q::zb8 seen::(h.heap.dropLast++[.dead,.cells [.ref h.id 0]])
theorem zju(p:Prog)(n q:Int)(seen:List (Int×Str×Int))(h:Ch)(hne:8≤h.N)(hk:zbm h.top.own)(x:Str)(hx:x.length≤1000000000):
  Sound Tryz.prog 170 [.s x,.ref h.N 0] (outH p n q seen h) (fun r H'=>r= .ret (.b (decide (x∈h.top.own)))/\H'=outH p n q seen h):=by
 revert hne hk;revert h;refine Ch.lt fun h=>?_
 cases h
 case one=>intro g hne;exact oI hne (show ¬8≤5 by decide)
 case c1=>intro g hne;exact oI hne (show ¬8≤7 by decide)
 all_goals
  intro g hne hk;refine so Tryz.func170 ?_;repeat' (first|refine wkt ?_|refine wka ?_|refine wk ?_|exact wkc|refine wk2 ?_ ?_|(apply TO.zjY;(iterate 4 exact rfl);assumption;assumption)|(apply TO.zjJ;(iterate 3 exact rfl);assumption)|intro hc)
  all_goals exact retV rfl (bsv (by simp_all [g,Ch.top])) rfl rfl
theorem zqn(p:Prog)(n q:Int)(seen:List (Int×Str×Int))(h:Ch)(hne:8≤h.N)(hk:zbm h.top.own)(l:List Str)(hl:l.length≤2000000000)(hs:∀x∈l,x.length≤1000000000):
  Sound Tryz.prog 191 [.ms 1 (h.N+1) 0 l.length,.fn 170 [.ref h.N 0]] (outH p n q seen h++[znj l]) (fun r H'=>r= .ret (.i (idxI (fun x=>decide (x∈h.top.own)) l))/\H'=outH p n q seen h++[znj l]):=by
 revert hne hk;revert h;refine Ch.lt fun h=>?_
 cases h
 case one=>intro g hne;exact oI hne (show ¬8≤5 by decide)
 case c1=>intro g hne;exact oI hne (show ¬8≤7 by decide)
 all_goals
  intro g hne hk;refine so Tryz.func191 ?_;repeat' (first|refine wk ?_|exact wkc|refine wk2 ?_ ?_|intro hc)
  refine TR.zaz l.length (fun k=>(l.take k).all (fun x=>!decide (x∈g.top.own))=true) (fun k=>[(0,.ms 1 (g.N+1) 0 l.length),(1,.fn 170 [.ref g.N 0]),(7,.i l.length),(8,.i k)]) (fun _=>outH p n q seen g++[znj l]) rfl (fun k hlt ha=>?_) (fun ha=>?_)
  ·have hx:=zxf hlt;have htk:=zbg hlt;have hat:=zfx (fun x=>decide (x∈g.top.own)) l k hlt ha;have hd:=zju p n q seen g hne hk l[k] (hs _ (qak hlt));generalize l[k]=d at hx htk hat hd;repeat' (first|refine wk ?_|exact wkc|refine wk2 ?_ ?_|refine zqh ?_|(apply TO.zf4 zaf;(iterate 5 exact rfl);exact hx)|(apply TO.zoF (g.N+1) hd;(iterate 3 exact rfl);exact Les.refl _;exact leB;(iterate 3 exact rfl))|intro hc)
   ·rw[hat hc];exact retV rfl rfl rfl (zi3 rfl _)
   ·refine zac.zaH hlt ?_;rw[htk,qbY,ha];simpa using hc
  ·rw[qap]at ha;rw[zfZ _ l ha];refine yd ?_;exact retV rfl rfl rfl (zi3 rfl _)
theorem zrP(p:Prog)(n q:Int)(seen:List (Int×Str×Int))(h:Ch)(hne:8≤h.N)(hk:zbm h.top.own)(l:List Str)(hl:l.length≤2000000000)(hs:∀x∈l,x.length≤1000000000):
  Sound Tryz.prog 169 [.ms 1 (h.N+1) 0 l.length,.fn 170 [.ref h.N 0]] (outH p n q seen h++[znj l])
   (fun r H'=>r= .ret (.ms 1 (h.N+1) 0 (zbL h.top.own l).length)/\H'=outH p n q seen h++[.cells (((zbL h.top.own l++List.replicate (l.length-(zbL h.top.own l).length) []).map T.s).map .t)]):=by
 revert hne hk;revert h;refine Ch.lt fun h=>?_
 cases h
 case one=>intro g hne;exact oI hne (show ¬8≤5 by decide)
 case c1=>intro g hne;exact oI hne (show ¬8≤7 by decide)
 all_goals
  intro g hne hk;have hd0:=zqn p n q seen g hne hk l hl hs;rcases zgy (fun x=>decide (x∈g.top.own)) l with h|⟨k0,hk0,h,hp⟩
  ·rw[h]at hd0
   have hall:l.all (fun x=>!decide (x∈g.top.own))=true:=by
    have:=zhv (fun x=>decide (x∈g.top.own)) l
    rw[h]at this;rw[List.all_eq_not_any_not];simpa using this
   rw[zl4 hall,qb6];simp only[List.replicate_zero,qaz];refine so Tryz.func169 ?_;repeat' (first|refine wk ?_|exact wkc|refine wk2 ?_ ?_|(apply TO.zbI (g.N+2) hd0;(iterate 3 exact rfl);exact Les.refl _;(iterate 3 exact rfl);exact zi3 rfl _;exact rfl;exact rfl;exact zi3 rfl _;exact zbn _)|intro hc)
   exact retV rfl rfl rfl (zi3 rfl _)
  ·rw[h]at hd0;have hin:l[k0]∈g.top.own:=by simpa using hp
   have hall:(l.take k0).all (fun x=>!decide (x∈g.top.own))=true:=by
    have:∀(l:List Str) (k:Nat),idxI (fun x=>decide (x∈g.top.own)) l=k->(l.take k).all (fun x=>!decide (x∈g.top.own))=true:=by
     intro l
     induction l with
     | nil=>intro k _;simp
     | cons y l ih=>
       intro k hk;unfold idxI at hk;by_cases hy:decide (y∈g.top.own)=true
       ·rw[oG hy]at hk
        have:k=0:=oA
        subst this;rfl
       ·rw[oH hy]at hk;split at hk
        ·omega
        ·obtain⟨k',rfl⟩:∃k',k=k'+1:=⟨k-1,oA⟩;rw[qaO,qbH,ih k' oA];simpa using hy
    exact this l k0 h
   obtain⟨f1,f2⟩:=zqE hk0 hall hin;have hlt1:=zuC hk0 hin;refine so Tryz.func169 ?_;repeat' (first|refine wk ?_|exact wkc|refine wk2 ?_ ?_|(apply TO.zbI (g.N+2) hd0;(iterate 3 exact rfl);exact Les.refl _;(iterate 3 exact rfl);exact zi3 rfl _;exact rfl;exact rfl;exact zi3 rfl _;exact zbn _)|intro hc)
   refine TR.zaz (l.length-(k0+1)) (fun _=>True) (fun k=>[(0,.ms 1 (g.N+1) 0 l.length),(1,.fn 170 [.ref g.N 0]),(5,.i (zbL g.top.own (l.take (k0+1+k))).length),(6,.i ((k0+1+k:Nat):Int))]) (fun k=>outH p n q seen g++[znj (midS g.top.own l (k0+1+k))]) trivial (fun k hlt _=>?_) (fun _=>?_) ⟨rfl,rfl,by rw[qcl,f2];rfl,rfl,trivial⟩ (by rw[qcl,f1];rfl)
   ·have hj:k0+1+k<l.length:=oA
    have hkl:=zei g.top.own (l.take (k0+1+k));have htl:(l.take (k0+1+k)).length=k0+1+k:=oF
    have hml:(((midS g.top.own l (k0+1+k)).map T.s).map SV.t).length=l.length:=by rw[qac,qac,zpe]
    have hx:(((midS g.top.own l (k0+1+k)).map T.s).map SV.t)[0+(k0+1+k)*1]?=some (.s l[k0+1+k]):=by
     rw[qaV,qcS,qan,qan,zxM hj];rfl
    have hd:=zju p n q seen g hne hk l[k0+1+k] (hs _ (qak hj));have g1:=zxN (own:=g.top.own) hj;have g2:=zuH (own:=g.top.own) hj;have g3:=ze8 (own:=g.top.own) hj;generalize l[k0+1+k]=x at*;generalize zbL g.top.own (l.take (k0+1+k))=KS at*;generalize midS g.top.own l (k0+1+k)=MS at*;repeat' (first|refine wk ?_|exact wkc|refine wk2 ?_ ?_|refine zqh ?_|(apply TO.zf4 zaf;(iterate 5 exact rfl);exact hx)|(apply TO.zoF (g.N+1) hd;(iterate 3 exact rfl);exact Les.refl _;exact leB;(iterate 3 exact rfl))|(apply TO.zmG zaf;(iterate 7 exact rfl);(show 0+KS.length*1<_;rw[hml];omega);exact rfl)|intro hc)
    ·have hxo:x∈g.top.own:=by simpa using hc
     rw[oG hxo,qaz]at g3;refine zac.zaH hlt trivial ⟨rfl,rfl,?_,rfl,trivial⟩ ?_
     ·rw[show zbL g.top.own (l.take (k0+1+(k+1)))=KS from g3];rfl
     ·rw[show midS g.top.own l (k0+1+(k+1))=MS from g1 hxo]
    ·have hxo:x ∉ g.top.own:=by simpa using hc
     rw[oH hxo]at g3;refine zac.zaH hlt trivial ⟨rfl,rfl,?_,rfl,trivial⟩ ?_
     ·rw[show zbL g.top.own (l.take (k0+1+(k+1)))=KS++[x] from g3,qab];rfl
     ·rw[show midS g.top.own l (k0+1+(k+1))=MS.set KS.length x from g2 hxo];show _=outH p n q seen g++[znj (MS.set KS.length x)];unfold znj;rw[qcU,qcU];show _=outH p n q seen g++[Blk.cells (((MS.map T.s).map SV.t).set KS.length (.s x))]
      conv=>rhs;rw[show KS.length=0+KS.length*1 from oA]
      rfl
   ·have hll:k0+1+(l.length-(k0+1))=l.length:=oA
    have hsp:=zqX g.top.own l;have hml:(((midS g.top.own l l.length).map T.s).map SV.t).length=l.length:=by rw[qac,qac,zpe]
    rw[hll,qap];generalize zbL g.top.own l=KS at*;generalize midS g.top.own l l.length=MS at*;repeat' (first|refine wk ?_|exact wkc|refine wk2 ?_ ?_|(apply TO.zqW zaf;(iterate 7 exact rfl);omega)|(apply TO.zpG zaf;(iterate 6 exact rfl);omega)|(apply TO.zyY zaf;(iterate 7 exact rfl);omega;(show 0+KS.length*1+(l.length-KS.length)≤_;rw[hml];omega);exact rfl)|intro hc)
    refine RetK.keep (g.N+2) (v:=.ms 1 (g.N+1) 0 KS.length) rfl (Le.refl _) rfl rfl rfl (H':=outH p n q seen g++[.cells (((KS++List.replicate (l.length-KS.length) []).map T.s).map .t)]) ?_ (zi3 rfl _) ⟨rfl,rfl⟩;rw[<-hsp];rfl
end Go.Proofs.YtdicfgideclbdaaGreatDoor
