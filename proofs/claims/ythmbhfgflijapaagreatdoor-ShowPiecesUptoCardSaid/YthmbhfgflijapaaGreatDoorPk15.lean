import Derived.Test.YthmbhfgflijapaaGreatDoorPk14
set_option linter.all false
namespace Go.Proofs.YthmbhfgflijapaaGreatDoor
open Go Go.TL
attribute [local irreducible] TR TO Then zag RetK Sound zab Kf GG zaK
def ins(l:List Str)(s:Str):List Str:=if s∈l then l else l++[s]
abbrev setB (l:List Str):Blk:=.map 9 4 (l.map fun s=>(str s,.v (.bool true)))
abbrev zb2 (l:List (Int×Str×Int)):Blk:=.map 101 3 (l.map fun e=>(keyV e.1 e.2.1,.v (.int .i64 e.2.2)))
structure zbd (l:List Str):Prop where
 nodup:l.Nodup
 short:∀s∈l,s.length≤1000000000
structure zaW (l:List (Int×Str×Int)):Prop where
 nodup:(l.map fun e=>(e.1,e.2.1)).Nodup
 short:∀e∈l,(0≤e.1/\e.1≤2)/\e.2.1.length≤1000000000
def zaD(l:List (Int×Str×Int))(k:Int)(s:Str):Option Int:=(l.find? fun e=>decide (e.1=k/\e.2.1=s)).map fun e=>e.2.2
theorem str_inj{a b:Str}(h:str a=str b):a=b:=by
 exact zwfb
theorem zni{k j:Int}{a b:Str}(h:keyV k a=keyV j b):k=j/\a=b:=by
 simp only[keyV,Value.agg.injEq,Array.mk.injEq,qbi,Value.int.injEq,true_and,and_true]at h
 exact⟨h.1,str_inj h.2⟩
theorem zbd.nil:zbd []:=⟨qbz,by simp⟩
theorem zbd.ins{l:List Str}{s:Str}(h:zbd l)(hs:s.length≤1000000000):zbd (ins l s):=by
 unfold Go.Proofs.YthmbhfgflijapaaGreatDoor.ins
 split
 ·exact h
 ·rename_i hn
  refine⟨qbt.2 ⟨h.nodup,by simp,fun a ha b hb e=>?_⟩,fun x hx=>?_⟩
  ·simp at hb;subst hb;subst e;exact hn ha
  ·simp at hx;rcases hx with hx|rfl
   ·exact h.short x hx
   ·exact hs
theorem zbd.keys{l:List Str}(h:zbd l):zg2 Tryz.prog 9 (l.map fun s=>(str s,.v (.bool true))):=by
 intro j e he
 rw[qar]at he
 cases hq:l[j]? with
 | none=>rw[hq]at he;cases he
 | some s=>rw[hq]at he;cases he;exact keyS (h.short s (qas hq))
theorem zaW.nil:zaW []:=⟨qbz,by simp⟩
theorem zaW.keys{l:List (Int×Str×Int)}(h:zaW l):zg2 Tryz.prog 101 (l.map fun e=>(keyV e.1 e.2.1,.v (.int .i64 e.2.2))):=by
 intro j e he
 rw[qar]at he
 cases hq:l[j]? with
 | none=>rw[hq]at he;cases he
 | some s=>rw[hq]at he;cases he;have:=h.short s (qas hq);exact keyK this.1 this.2
theorem zaW.add{l:List (Int×Str×Int)}{k v:Int}{s:Str}(h:zaW l)(hk:0≤k/\k≤2)(hs:s.length≤1000000000)(hn:zaD l k s=none):zaW (l++[(k,s,v)]):=by
 refine⟨?_,fun e he=>?_⟩
 ·rw[qaH]
  refine qbt.2 ⟨h.nodup,by simp,fun a ha b hb e=>?_⟩
  simp at hb;subst hb;subst e
  obtain⟨e,he,heq⟩:=qaP.1 ha
  simp only[zaD,Option.map_eq_none_iff,qcm,decide_eq_true_eq]at hn
  simp only[qbo]at heq
  exact hn e he heq
 ·simp at he;rcases he with he|rfl
  ·exact h.short e he
  ·exact⟨hk,hs⟩
theorem zqC{l:List Str}(h:zbd l)(s:Str):zjY (l.map fun s=>(str s,T.v (.bool true))) (str s) (if s∈l then some (.v (.bool true)) else none):=by
 by_cases hm:s∈l
 ·rw[if_pos hm]
  obtain⟨j,hj⟩:=qbc hm
  refine⟨j,by simp[hj],fun j' t' h'=>?_⟩
  rw[qar]at h'
  cases hq:l[j']? with
  | none=>rw[hq]at h';cases h'
  | some x=>
    rw[hq]at h'
    simp only[qaW,qaE,qbo]at h'
    have:=str_inj h'.1
    subst this
    exact(qcw (qaa.1 hq).1 h.nodup).1 (hq.trans hj.symm)
 ·rw[if_neg hm]
  intro j e he e2
  rw[qar]at he
  cases hq:l[j]? with
  | none=>rw[hq]at he;cases he
  | some x=>
    rw[hq]at he;cases he
    have:=str_inj e2
    subst this
    exact hm (qas hq)
theorem zuy{l:List Str}(h:zbd l)(s:Str):zoS (l.map fun s=>(str s,T.v (.bool true))) (str s) (.v (.bool true)) ((ins l s).map fun s=>(str s,T.v (.bool true))):=by
 have hg:=zqC h s
 unfold ins
 by_cases hm:s∈l
 ·rw[if_pos hm]at hg⊢
  obtain⟨j,hj,hu⟩:=hg
  refine .inl ⟨j,_,hj,hu,?_⟩
  have hlt:=(qaa.1 hj)
  conv=>rhs;rw[<-hlt.2]
  rw[qcb]
 ·rw[if_neg hm]at hg⊢
  exact .inr ⟨hg,by simp⟩
theorem zny{l:List (Int×Str×Int)}(h:zaW l)(k:Int)(s:Str):zjY (l.map fun e=>(keyV e.1 e.2.1,T.v (.int .i64 e.2.2))) (keyV k s) ((zaD l k s).map fun v=>.v (.int .i64 v)):=by
 unfold zaD
 cases hf:l.find? (fun e=>decide (e.1=k/\e.2.1=s)) with
 | none=>
   rw[qcm]at hf
   intro j e he e2
   rw[qar]at he
   cases hq:l[j]? with
   | none=>rw[hq]at he;cases he
   | some x=>
     rw[hq]at he;cases he
     exact hf x (qas hq) (by simpa using zni e2)
 | some e=>
   have hm:=qb1 hf
   have hp:=List.find?_some hf
   simp only[decide_eq_true_eq]at hp
   obtain⟨j,hj⟩:=qbc hm
   refine⟨j,by simp[hj,hp.1,hp.2],fun j' t' h'=>?_⟩
   rw[qar]at h'
   cases hq:l[j']? with
   | none=>rw[hq]at h';cases h'
   | some x=>
     rw[hq]at h'
     simp only[qaW,qaE,qbo]at h'
     have h1:=zni h'.1
     have e1:(l.map fun e=>(e.1,e.2.1))[j']?=some (k,s):=by simp[hq,h1.1,h1.2]
     have e2:(l.map fun e=>(e.1,e.2.1))[j]?=some (k,s):=by simp[hj,hp.1,hp.2]
     exact(qcw (qaa.1 e1).1 h.nodup).1 (e1.trans e2.symm)
theorem zpN{k:Int}{s:Str}{m:M}{v:Value}(h:SRel m (.t (.ag [.i k,.s s])) v):v=keyV k s:=by
 cases h with
 | t _ _ h=>
   cases h with
   | ag _ arr hs h1 h2=>
     obtain⟨l⟩:=arr
     match l,hs with
     | [a,b],_=>
       have ha:=h2 0 _ a rfl rfl
       have hb:=h2 1 _ b rfl rfl
       cases ha;cases hb
       rfl
section
variable {n:Nat}{env:Env}{K:TK}{all:Array Oper}{rest:List Oper}{d id:Nat}{ty:TypeId}{pos:String}{aft:Array Edge}{H:Heap}{x y w:Operand}{q:Bool}
theorem TO.ziZ{l:List Str}{s:Str}(hd:Nat.ble (d+1) n=true)(hx:env.val x=some (.mp id))(hH:H[id]?=some (setB l))(hy:env.val y=some (.s s))(hl:zbd l)(hs:s.length≤1000000000)
  (k1:s∈l->TO q Tryz.prog n all rest ((d,.b true)::env) H K)(k2:s ∉ l->TO q Tryz.prog n all rest ((d,.b false)::env) H K):
  TO q Tryz.prog n all (⟨some d,.lookup 150 x y false,ty,pos,aft,none⟩::rest) env H K:=by
 refine TO.lookup zaf hd rfl rfl rfl rfl rfl kStr hx hH hl.keys hy (kx:=str s) (fun m v h=>h.v_eq) (keyS hs) (zqC hl s) ?_
 by_cases hm:s∈l
 ·rw[if_pos hm];exact k1 hm
 ·rw[if_neg hm];exact k2 hm
theorem TO.ziP{s:Str}(hd:Nat.ble (d+1) n=true)(hx:env.val x=some (.t (.v (.map none))))(hy:env.val y=some (.s s))(hs:s.length≤1000000000)(k:TO q Tryz.prog n all rest ((d,.b false)::env) H K):
  TO q Tryz.prog n all (⟨some d,.lookup 150 x y false,ty,pos,aft,none⟩::rest) env H K:=
 TO.lookup_nil zaf hd rfl rfl rfl rfl rfl kStr hx hy (kx:=str s) (fun m v h=>h.v_eq) (keyS hs) k
theorem TO.zqB{l:List Str}{s:Str}{H':Heap}(hx:env.val x=some (.mp id))(hH:H[id]?=some (setB l))(hy:env.val y=some (.s s))(hw:env.val w=some (.b true))(hl:zbd l)(hs:s.length≤1000000000)
  (hH':setS H id (setB (ins l s))=some H')(k:TO false Tryz.prog n all rest env H' K):
  TO false Tryz.prog n all (⟨none,.mapUpdate 150 x y w,ty,pos,aft,none⟩::rest) env H K:=
 TO.mapUpdate zaf rfl rfl kStr hx hH hl.keys hy (kx:=str s) (fun m v h=>h.v_eq) (keyS hs) hw rfl (zuy hl s) (zf9 hH').symm k
theorem TO.zjG{l:List (Int×Str×Int)}{s:Str}{k:Int}(hd:Nat.ble (d+1) n=true)(hx:env.val x=some (.mp id))(hH:H[id]?=some (zb2 l))(hy:env.val y=some (.t (.ag [.i k,.s s])))(hl:zaW l)(hk:0≤k/\k≤2)(hs:s.length≤1000000000)
  (k1:∀v,zaD l k s=some v->TO q Tryz.prog n all rest ((d,.tup [.i v,.b true])::env) H K)(k2:zaD l k s=none->TO q Tryz.prog n all rest ((d,.tup [.i 0,.b false])::env) H K):
  TO q Tryz.prog n all (⟨some d,.lookup 96 x y true,ty,pos,aft,none⟩::rest) env H K:=by
 refine TO.lookup zaf hd rfl rfl rfl rfl rfl kKey hx hH hl.keys hy (kx:=keyV k s) (fun m v h=>zpN h) (keyK hk hs) (zny hl k s) ?_
 cases hg:zaD l k s with
 | none=>exact k2 hg
 | some v=>exact k1 v hg
theorem TO.zuv{l:List (Int×Str×Int)}{s:Str}{k v:Int}{H':Heap}(hx:env.val x=some (.mp id))(hH:H[id]?=some (zb2 l))(hy:env.val y=some (.t (.ag [.i k,.s s])))(hw:env.val w=some (.i v))(hl:zaW l)(hn:zaD l k s=none)(hk:0≤k/\k≤2)(hs:s.length≤1000000000)
  (hH':setS H id (zb2 (l++[(k,s,v)]))=some H')(kk:TO false Tryz.prog n all rest env H' K):
  TO false Tryz.prog n all (⟨none,.mapUpdate 96 x y w,ty,pos,aft,none⟩::rest) env H K:=by
 have hg:=zny hl k s
 rw[hn]at hg
 exact TO.mapUpdate zaf rfl rfl kKey hx hH hl.keys hy (kx:=keyV k s) (fun m v h=>zpN h) (keyK hk hs) hw rfl (.inr ⟨hg,by rw[qaH];rfl⟩) (zf9 hH').symm kk
end
end Go.Proofs.YthmbhfgflijapaaGreatDoor
namespace Go.Proofs.YthmbhfgflijapaaGreatDoor
open Go Go.TL
attribute [local irreducible] TR TO Then zag RetK Sound zab Kf GG zaK
structure Lv where
 own:List Str
 done:List Str
 defs:List Str
structure Lv.ok (a:Lv):Prop where
 own:zbd a.own
 done:zbd a.done
inductive Ch where
 | one (a:Lv)
 | c1 (i:List Str) (a:Lv)
 | c2 (i:List Str) (a b:Lv)
 | c3 (i:List Str) (a b c:Lv)
 | c4 (i:List Str) (a b c d:Lv)
abbrev nilP:SV:=.t (.v (.pointer none))
abbrev nilM:SV:=.t (.v (.map none))
abbrev nilS:SV:=.t (.v (.slice none 0 0))
abbrev rowB (l:List Str):Blk:=.row 9 (l.map T.s)
abbrev nmB (up:SV)(b:Nat)(inp:SV)(a:Lv):Blk:=.cells [up,.mp b,.mp (b+1),inp,.rw (b+3) (a.defs.map T.s).length]
abbrev lkB (p:Prog)(n q:Int):Blk:=.cells [.t (.sl 2 (p.enums.map enT)),.t (zbB p.nodes),.i n,.i q,.mp 1]
namespace Ch
def vis0:Ch->List Str
 | one _=>[]|c1 _ _=>[]|c2 _ a _=>a.own|c3 _ a b _=>a.own++b.own|c4 _ a b c _=>a.own++b.own++c.own
def top:Ch->Lv
 | one a=>a|c1 _ a=>a|c2 _ _ b=>b|c3 _ _ _ c=>c|c4 _ _ _ _ d=>d
def low:Ch->List Str
 | one _=>[]|c1 i _=>i|c2 i a _=>i++a.done|c3 i a b _=>i++a.done++b.done|c4 i a b c _=>i++a.done++b.done++c.done
def set:Ch->Lv->Ch
 | one _,x=>one x|c1 i _,x=>c1 i x|c2 i a _,x=>c2 i a x|c3 i a b _,x=>c3 i a b x|c4 i a b c _,x=>c4 i a b c x
def vis(h:Ch):List Str:=h.vis0++h.top.own
def id:Ch->Nat
 | one _=>4|c1 .. =>4|c2 .. =>9|c3 .. =>13|c4 .. =>17
def N:Ch->Nat
 | one _=>5|c1 .. =>7|c2 .. =>11|c3 .. =>15|c4 .. =>19
def heap:Ch->Heap
 | one a=>[setB a.own,setB a.done,.cells [nilP,.mp 2,.mp 3,nilM,nilS]]
 | c1 i a=>[setB a.own,setB a.done,nmB nilP 2 (.mp 6) a,rowB a.defs,setB i]
 | c2 i a b=>[setB a.own,setB a.done,nmB nilP 2 (.mp 6) a,rowB a.defs,setB i,setB b.own,setB b.done,nmB (.ref 4 0) 7 nilM b,rowB b.defs]
 | c3 i a b c=>[setB a.own,setB a.done,nmB nilP 2 (.mp 6) a,rowB a.defs,setB i,setB b.own,setB b.done,nmB (.ref 4 0) 7 nilM b,rowB b.defs,setB c.own,setB c.done,nmB (.ref 9 0) 11 nilM c,rowB c.defs]
 | c4 i a b c d=>[setB a.own,setB a.done,nmB nilP 2 (.mp 6) a,rowB a.defs,setB i,setB b.own,setB b.done,nmB (.ref 4 0) 7 nilM b,rowB b.defs,setB c.own,setB c.done,nmB (.ref 9 0) 11 nilM c,rowB c.defs,setB d.own,setB d.done,nmB (.ref 13 0) 15 nilM d,rowB d.defs]
def ok:Ch->Prop
 | one a=>a.ok|c1 i a=>zbd i/\a.ok|c2 i a b=>zbd i/\a.ok/\b.ok|c3 i a b c=>zbd i/\a.ok/\b.ok/\c.ok|c4 i a b c d=>zbd i/\a.ok/\b.ok/\c.ok/\d.ok
end Ch
def Ch.push:Ch->Lv->Ch
 | .c1 i a,x=>.c2 i a x| .c2 i a b,x=>.c3 i a b x| .c3 i a b c,x=>.c4 i a b c x|h,_=>h
theorem Ch.lt{P:Ch->Prop}(k:∀h,let g:=h;P g):∀h,P h:=k
abbrev full (p:Prog)(n q:Int)(seen:List (Int×Str×Int))(h:Ch):Heap:=lkB p n q::zb2 seen::h.heap
theorem retV{rs:List ResultVar}{env:Env}{H:Heap}{v v':SV}(hr:zb1 tab env H rs=some [v'])(hv:v'=v)(hu:v.under H.length=true)(hb:zaa H.length H=true):
  RetK tab rs H.length (fun r H'=>r= .ret v/\H'=H) .ret env H:=RetK.at H.length hr (by subst hv;exact Le.refl _) (qae _) rfl hu hb ⟨rfl,rfl⟩
theorem bsv{a b:Bool}(h:a=b):SV.b a=SV.b b:=by rw[h]
theorem zoG(p:Prog)(n q:Int)(seen:List (Int×Str×Int))(h:Ch)(hk:h.ok)(nm:Str)(hs:nm.length≤1000000000):
  Sound Tryz.prog 99 [.ref h.id 0,.s nm] (full p n q seen h) (fun r H'=>r= .ret (.b (decide (nm∈h.vis)))/\H'=full p n q seen h):=by
 cases h
 all_goals
  first
  | have a1:=hk.own
  | have a1:=hk.2.own
  | have a1:=hk.2.1.own;have b1:=hk.2.2.own
  | have a1:=hk.2.1.own;have b1:=hk.2.2.1.own;have c1:=hk.2.2.2.own
  | have a1:=hk.2.1.own;have b1:=hk.2.2.1.own;have c1:=hk.2.2.2.1.own;have d1:=hk.2.2.2.2.own
  simp only[full,Ch.heap,Ch.id,Ch.vis,Ch.vis0,Ch.top]
  refine so Tryz.func99 ?_
  repeat' (first|refine wkt ?_|refine wka ?_|refine wk ?_|exact wkc|intro hc|refine wk2 ?_ ?_|(apply TO.ziZ;(iterate 4 exact rfl);assumption;assumption)|(apply TO.ziP;(iterate 3 exact rfl);assumption)|(apply TO.zf4 zaf;(iterate 5 exact rfl))|(apply TO.zf3 zaf;(iterate 4 exact rfl))|refine TR.loop ?_|refine Then.normal ?_|refine Then.exit ?_|refine Then.ret ?_|fail)
  all_goals exact retV rfl (bsv (by simp_all)) rfl rfl
theorem zjg(p:Prog)(n q:Int)(seen:List (Int×Str×Int))(h:Ch)(hk:h.ok)(nm:Str)(hs:nm.length≤1000000000):
  Sound Tryz.prog 102 [.ref h.id 0,.s nm] (full p n q seen h) (fun r H'=>r= .ret (.b (decide (nm∈h.low\/nm∈h.top.done)))/\H'=full p n q seen h):=by
 cases h
 all_goals
  first
  | have a1:=hk.done
  | have a1:=hk.2.done
  | have a1:=hk.2.1.done;have b1:=hk.2.2.done
  | have a1:=hk.2.1.done;have b1:=hk.2.2.1.done;have c1:=hk.2.2.2.done
  | have a1:=hk.2.1.done;have b1:=hk.2.2.1.done;have c1:=hk.2.2.2.1.done;have d1:=hk.2.2.2.2.done
  have i1:=hk.1
  simp only[full,Ch.heap,Ch.id,Ch.low,Ch.top]
  refine so Tryz.func102 ?_
  repeat' (first|refine wkt ?_|refine wka ?_|refine wk ?_|exact wkc|intro hc|refine wk2 ?_ ?_|(apply TO.ziZ;(iterate 4 exact rfl);assumption;assumption)|(apply TO.ziP;(iterate 3 exact rfl);assumption)|(apply TO.zf4 zaf;(iterate 5 exact rfl))|(apply TO.zf3 zaf;(iterate 4 exact rfl))|refine TR.loop ?_|refine Then.normal ?_|refine Then.exit ?_|refine Then.ret ?_|fail)
  all_goals exact retV rfl (bsv (by simp_all)) rfl rfl
end Go.Proofs.YthmbhfgflijapaaGreatDoor
namespace Go.TL
open Go
def zic(K:TK):TK
 | .panic v,env,H=>K (.panic v) env (List.replicate H.length .dead)
 | e,env,H=>K e env H
section rules
variable {P:Program}{n:Nat}{env:Env}{H:Heap}{K:TK}
theorem Post.dead{φ:Fm}{m:M}{e:Exit}{a:Act}{w:World}(h:Post φ m n (zic K) e a w):Post φ m n K e a w:=by
 obtain⟨m2,env2,te,rfl,s,hm,he,hd,hx,hk⟩:=h
 cases te with
 | normal=>exact⟨m2,env2,.normal,rfl,s,hm,he,hd,hx,hk⟩
 | exit i=>exact⟨m2,env2,.exit i,rfl,s,hm,he,hd,hx,hk⟩
 | ret=>exact⟨m2,env2,.ret,rfl,s,hm,he,hd,hx,hk⟩
 | panic v=>
   obtain⟨s1,hm1⟩:=zpn hm
   refine⟨⟨m2.A,m2.β,m2.H.map fun _=>.dead,m2.w⟩,env2,.panic v,rfl,s.trans s1,hm1,he.step hm s1,hd,?_,?_⟩
   ·cases e with
    | panic ch=>obtain⟨x,x1,x2⟩:=hx;exact⟨x,x1,s1.srel hm x2⟩
    | _=>simp[zbu]at hx
   ·show K (.panic v) env2 (m2.H.map fun _=>Blk.dead)
    rw[List.map_const'];exact hk
theorem TR.dead{c:Code}(h:TR P n c env H (zic K)):TR P n c env H K:=
 fun φ m a h1 h2 h3 h4=>zbk (h φ m a h1 h2 h3 h4) fun _ _ _ hp=>hp.dead
theorem zic.errP{tab:Tab}{rs:List ResultVar}{N:Nat}{c:Int}{v pv:SV}{H1:Heap}(hc:c≠0)(hN:N≤H.length)(hu:∀k,pv.under k=true):zic (RetK tab rs N (Err0 c v pv H1 N)) (.panic pv) env H:=
 RetK.errP (tab:=tab) (rs:=rs) (N:=N) (env:=env) (H:=List.replicate H.length .dead) hc (by simpa using hN) (hu _) (by rw[qbG];exact zcz _ _)
end rules
end Go.TL
namespace Go.Proofs.YthmbhfgflijapaaGreatDoor
open Go Go.TL
attribute [local irreducible] TR TO Then zag RetK Sound zab Kf GG zaK
abbrev zcp (n q c:Int):SV:=.ifc 93 (.t (.ag [T.i n,T.i q,T.i c]))
theorem zr2(p:Prog)(n q:Int)(seen:List (Int×Str×Int))(e:Int):Sound Tryz.prog 65 [.ref 0 0,.b true,.i e] [lkB p n q,zb2 seen] (fun r H'=>r= .ret (.tup [])/\H'=[lkB p n q,zb2 seen]):=by
 refine so Tryz.func65 ?_
 repeat' (first|refine wu ?_|exact wkc|intro hc|refine wk2 ?_ ?_|fail)
 exact RetK.zkG 2 (vs:=[]) rfl (Le.refl _) rfl rfl rfl rfl rfl ⟨rfl,rfl⟩
theorem zr1(p:Prog)(n q:Int)(seen:List (Int×Str×Int))(e:Int)(he:e≠0):Sound Tryz.prog 65 [.ref 0 0,.b false,.i e] [lkB p n q,zb2 seen] (Err e (.tup []) (zcp n q e) [lkB p n q,zb2 seen]):=by
 refine Sound.err rfl (fun _=>rfl) ?_
 refine so Tryz.func65 ?_
 repeat' (first|refine wu ?_|exact wkc|intro hc|refine wk2 ?_ ?_|(apply TO.makeInterface;exact rfl;kernel_rfl;exact rfl)|(apply TO.panic;exact rfl)|fail)
 exact RetK.errP he rfl rfl rfl
theorem Ch.len(h:Ch)(p:Prog)(n q:Int)(seen:List (Int×Str×Int)):(full p n q seen h).length=h.N:=by cases h <;> rfl
theorem Ch.under(h:Ch)(p:Prog)(n q:Int)(seen:List (Int×Str×Int)):zaa h.N (full p n q seen h)=true:=by cases h <;> rfl
theorem Ch.tk(h:Ch)(p:Prog)(n q:Int)(seen:List (Int×Str×Int)):(full p n q seen h).take h.N=full p n q seen h:=qaI (by rw[Ch.len];exact qae _)
theorem Ch.tkl(h:Ch)(p:Prog)(n q:Int)(seen:List (Int×Str×Int)):(full p n q seen h).take (full p n q seen h).length=full p n q seen h:=qaI (qae _)
theorem Ch.und(h:Ch)(p:Prog)(n q:Int)(seen:List (Int×Str×Int)):zaa (full p n q seen h).length (full p n q seen h)=true:=by rw[Ch.len];exact Ch.under h p n q seen
theorem Ch.ble(h:Ch)(p:Prog)(n q:Int)(seen:List (Int×Str×Int)):Nat.ble (full p n q seen h).length (full p n q seen h).length=true:=by simp
section
variable {n:Nat}{env:Env}{K:TK}{all:Array Oper}{rest:List Oper}{d:Nat}{ty:TypeId}{pos:String}{aft:Array Edge}{p:Prog}{a q e:Int}{seen:List (Int×Str×Int)}{H Hr:Heap}{args:Array Operand}{ts:Array TypeId}
theorem TO.zvt(hd:Nat.ble (d+1) n=true)(ha:env.vals args.toList=some [.ref 0 0,.b true,.i e])(h1:H=lkB p a q::zb2 seen::Hr)(k:TO false Tryz.prog n all rest ((d,.tup [])::env) H K):
  TO false Tryz.prog n all (⟨some d,.call { callee:=.value (.func 65),args:=args,argTypes:=ts },ty,pos,aft,none⟩::rest) env H K:=by
 subst h1
 exact TO.zbH 2 (zr2 p a q seen e) hd rfl ha ⟨Le.refl _,Le.refl _,Le.refl _,trivial⟩ (by simp) rfl rfl rfl rfl rfl rfl (by simp[zbg]) k
theorem TO.zsZ(hd:Nat.ble (d+1) n=true)(ha:env.vals args.toList=some [.ref 0 0,.b false,.i e])(h1:H=lkB p a q::zb2 seen::Hr)(he:e≠0)(k:K (.panic (zcp a q e)) env (.dead:: .dead::Hr)):
  TO false Tryz.prog n all (⟨some d,.call { callee:=.value (.func 65),args:=args,argTypes:=ts },ty,pos,aft,none⟩::rest) env H K:=by
 subst h1
 exact TO.zkg 2 (zr1 p a q seen e he) hd rfl ha ⟨Le.refl _,Le.refl _,Le.refl _,trivial⟩ (by simp) rfl rfl rfl rfl rfl rfl rfl (by simp[zbg];rfl) (fun h=>absurd h he) (fun _=>k)
theorem TO.zm1(N:Nat){Hc:Heap}{cargs:List SV}{b:Bool}{f:Operand}{fid:FuncId}{caps:List SV}{vs:List SV}
  (hs:Sound Tryz.prog fid cargs Hc fun r H'=>r= .ret (.b b)/\H'=Hc)(hd:Nat.ble (d+1) n=true)(hf:env.val f=some (.fn fid caps))(ha:env.vals args.toList=some vs)(hl:Les (vs++caps) cargs)
  (hN:N≤H.length)(hc:H.take N=Hc)(hu:unders N cargs=true)(hb:zaa N Hc=true)
  (k1:b=true->TO false Tryz.prog n all rest ((d,.b true)::env) H K)(k2:b=false->TO false Tryz.prog n all rest ((d,.b false)::env) H K):
  TO false Tryz.prog n all (⟨some d,.call { callee:=.value f,args:=args,argTypes:=ts },ty,pos,aft,none⟩::rest) env H K:=by
 have hl1:Hc.length=N:=by rw[<-hc];simp;omega
 refine TO.zbH N hs hd hf ha hl (by simpa using hN) hc hu hb rfl hl1 hb (H':=H) (by rw[<-hc,qaV,zbg]) ?_
 cases b
 ·exact k2 rfl
 ·exact k1 rfl
theorem TO.sees{h:Ch}{nm:Str}(hk:h.ok)(hd:Nat.ble (d+1) n=true)(ha:env.vals args.toList=some [.ref h.id 0,.s nm])(hH:H.take h.N=full p a q seen h)(hs:nm.length≤1000000000)
  (k1:nm∈h.vis->TO false Tryz.prog n all rest ((d,.b true)::env) H K)(k2:nm ∉ h.vis->TO false Tryz.prog n all rest ((d,.b false)::env) H K):
  TO false Tryz.prog n all (⟨some d,.call { callee:=.value (.func 99),args:=args,argTypes:=ts },ty,pos,aft,none⟩::rest) env H K:=by
 have hN:h.N≤H.length:=by have:=congrArg List.length hH;rw[Ch.len]at this;simp at this;omega
 refine TO.zm1 h.N (zoG p a q seen h hk nm hs) hd rfl ha ⟨Le.refl _,Le.refl _,trivial⟩ hN hH ?_ (Ch.under h p a q seen) (fun hb=>k1 (by simpa using hb)) (fun hb=>k2 (by simpa using hb))
 cases h <;> rfl
theorem TO.defined{h:Ch}{nm:Str}(hk:h.ok)(hd:Nat.ble (d+1) n=true)(ha:env.vals args.toList=some [.ref h.id 0,.s nm])(hH:H.take h.N=full p a q seen h)(hs:nm.length≤1000000000)
  (k1:(nm∈h.low\/nm∈h.top.done)->TO false Tryz.prog n all rest ((d,.b true)::env) H K)(k2:¬(nm∈h.low\/nm∈h.top.done)->TO false Tryz.prog n all rest ((d,.b false)::env) H K):
  TO false Tryz.prog n all (⟨some d,.call { callee:=.value (.func 102),args:=args,argTypes:=ts },ty,pos,aft,none⟩::rest) env H K:=by
 have hN:h.N≤H.length:=by have:=congrArg List.length hH;rw[Ch.len]at this;simp at this;omega
 refine TO.zm1 h.N (zjg p a q seen h hk nm hs) hd rfl ha ⟨Le.refl _,Le.refl _,trivial⟩ hN hH ?_ (Ch.under h p a q seen) (fun hb=>k1 (by simpa using hb)) (fun hb=>k2 (by simpa using hb))
 cases h <;> rfl
end
theorem wms{G Q:Prop}(k:Q)(h:Hold Q->G:=by
  intro k
  first
  | (apply Go.Proofs.YthmbhfgflijapaaGreatDoor.TO.zvt;(iterate 3 exact rfl);exact k.p)
  | (apply Go.Proofs.YthmbhfgflijapaaGreatDoor.TO.zsZ;(iterate 3 exact rfl);decide;exact k.p)
  | (apply Go.Proofs.YthmbhfgflijapaaGreatDoor.TO.zsZ;(iterate 3 exact rfl);assumption;exact k.p)):G:=h ⟨k⟩
abbrev SS (f:FuncId)(args:List SV)(p:Prog)(n q:Int)(seen:List (Int×Str×Int))(h h':Ch)(c:Int):Prop:=Sound Tryz.prog f (.ref 0 0::args) (full p n q seen h) (Err c (.tup []) (zcp n q c) (full p n q seen h'))
theorem retS{rs:List ResultVar}{env:Env}{H H1:Heap}{n q c c':Int}{N:Nat}{v:SV}(h0:c'≠0)(hc:c'=c)(hN:N≤H.length):
  zic (RetK tab rs N (Err0 c v (zcp n q c) H1 N)) (.panic (zcp n q c')) env H:=by
 subst hc;exact zic.errP h0 hN (fun _=>rfl)
theorem zk7{env:Env}{H H1:Heap}{n q c:Int}{N:Nat}(hc:c=0)(hN:Nat.ble N H1.length=true)(hk:Nat.ble H1.length H.length=true)(ht:H.take H1.length=H1)(hb:zaa H1.length H1=true):
  zic (RetK tab [] N (Err0 c (.tup []) (zcp n q c) H1 N)) .normal env H:=RetK.errN (vs:=[]) hc rfl (Le.refl _) hN hk rfl ht hb
def ziW(vis:List Str)(l:List Decl):Int:=zac (fun d=>zac (fun o:OnC=>if o.name∈vis then 0 else 6) d.clock) l
theorem zbn{l:List Decl}{d:Decl}(h:d∈l):d.name.length<(zap l).w/\(T.sl 3 (d.clock.map onT)).w<(zap l).w:=by
 have:=zaN (f:=zav) (sz:=3) h
 rw[show zav d= .ag (zfm d) from rfl,w_ag]at this
 simp only[zfm,qah,qaC,qay,qaQ,w_s]at this
 have h2:(zap l).w=(T.sl 3 (l.map zav)).w:=rfl
 omega
theorem zuc{l:List OnC}{o:OnC}(h:o∈l):o.name.length<(T.sl 3 (l.map onT)).w:=by
 have:=zaN (f:=onT) (sz:=3) h
 rw[onT,w_ag]at this
 simp only[qah,qaC,qay,qaQ,w_s]at this
 omega
theorem zhN(p:Prog)(n q:Int)(seen:List (Int×Str×Int))(h:Ch)(hk:h.ok)(l:List Decl)(hw:(zap l).w≤1000000000):SS 69 [.ref h.id 0,.t (zap l)] p n q seen h h (ziW h.vis l):=by
 have hml:(l.map zav).length=l.length:=qab _
 have hlb:l.length≤1000000000:=qaq (qbY (zaB zav 3 l)) hw
 unfold ziW
 refine Sound.err rfl (fun _=>rfl) ?_
 refine so Tryz.func69 ?_
 refine TR.dead ?_
 repeat' (first|refine wu ?_|exact wkc|intro hc|refine wk2 ?_ ?_|fail)
 refine TR.zaA l.length (fun k=>zac (fun d=>zac (fun o:OnC=>if o.name∈h.vis then 0 else 6) d.clock) (l.take k)=0) (fun k=>[(0,.ref 0 0),(1,.ref h.id 0),(10,.t (zap l)),(11,.i (l.map zav).length),(12,.i k)]) (fun _=>full p n q seen h) rfl (fun k hlt ha=>?_) (fun ha=>?_)
 ·have hx:=zdK hlt
  have g1:=zaJ (f:=fun d=>zac (fun o:OnC=>if o.name∈h.vis then 0 else 6) d.clock) hlt ha
  have g2:=zaz (f:=fun d=>zac (fun o:OnC=>if o.name∈h.vis then 0 else 6) d.clock) hlt ha
  have hwx:=(zbn (qaf hlt)).2
  generalize l[k]=x at*
  have hlc:=zaB onT 3 x.clock
  have hmo:(x.clock.map onT).length=x.clock.length:=qab _
  unfold zfm at hx
  repeat' (first|refine wu ?_|exact wkc|intro hc|refine wk2 ?_ ?_|fail)
  refine TR.zaA x.clock.length (fun j=>zac (fun o:OnC=>if o.name∈h.vis then 0 else 6) (x.clock.take j)=0) (fun j=>[(0,.ref 0 0),(1,.ref h.id 0),(10,.t (zap l)),(11,.i (l.map zav).length),(12,.i k),(17,.t (.sl 3 (x.clock.map onT))),(18,.i (x.clock.map onT).length),(19,.i j)]) (fun _=>full p n q seen h) rfl (fun j hlt2 ha2=>?_) (fun ha2=>?_)
  ·have hx2:=zuY hlt2
   have f1:=zaJ (f:=fun o:OnC=>if o.name∈h.vis then 0 else 6) hlt2 ha2
   have f2:=zaz (f:=fun o:OnC=>if o.name∈h.vis then 0 else 6) hlt2 ha2
   have hno:x.clock[j].name.length≤1000000000:=by have:=zuc (qaf hlt2);omega
   generalize x.clock[j]=o at*
   repeat' (first|refine wkt ?_|refine wka ?_|refine wkD ?_|refine wk ?_|exact wkc|intro hc|refine wk2 ?_ ?_|(apply TO.ziZ;(iterate 4 exact rfl);assumption;assumption)|(apply TO.ziP;(iterate 3 exact rfl);assumption)|(apply TO.zqB;(iterate 4 exact rfl);assumption;assumption;exact rfl)|refine wms ?_|(apply TO.sees hk;exact rfl;exact rfl;(first|exact rfl|exact Ch.tk _ _ _ _ _);assumption)|(apply TO.defined hk;exact rfl;exact rfl;(first|exact rfl|exact Ch.tk _ _ _ _ _);assumption)|fail)
   ·exact zab.zaI hlt2 (f2 (by rw[if_pos hc]))
   ·((repeat' (first|refine zab.panic ?_|refine wk ?_|fail));apply retS;(first|assumption|decide);(clear hx;first|grind|grind [orE]);(first|exact leB|exact Nat.le_refl _|(simp[Ch.len];done)|(simp[Ch.len];omega)))
  ·have e1:=zaF ha2
   refine wk ?_
   repeat' (first|refine wu ?_|exact wkc|intro hc|refine wk2 ?_ ?_|fail)
   exact zab.zaI hlt (g2 e1)
 ·exact zwbq
def zai{α β:Type}(f:β->α->β×Int):β->List α->β×Int
 | a,[]=>(a,0)
 | a,x::l=>if(f a x).2=0 then zai f (f a x).1 l else f a x
theorem zek{α β:Type}(f:β->α->β×Int):∀(l r:List α) (a:β),zai f a (l++r)=if(zai f a l).2=0 then zai f (zai f a l).1 r else zai f a l
 | [],r,a=>by simp[zai]
 | x::l,r,a=>by
   simp only[qbk,zai]
   by_cases h:(f a x).2=0
   ·simp only[h,if_true];exact zek f l r _
   ·simp[h]
theorem zbD{α β:Type}{f:β->α->β×Int}{a:β}{l:List α}{k:Nat}(hk:k<l.length)(h:(zai f a (l.take k)).2=0):zai f a (l.take (k+1))=f (zai f a (l.take k)).1 l[k]:=by
 rw[qax hk,zek,if_pos h,zai]
 split
 ·rename_i h2
  generalize f (zai f a (l.take k)).1 l[k]=z at*
  obtain⟨z1,z2⟩:=z
  simp only at h2;subst h2;rfl
 ·rfl
theorem zcA{α β:Type}{f:β->α->β×Int}{a:β}{l:List α}{k:Nat}(hk:k<l.length)(h:(zai f a (l.take k)).2=0)(hn:(f (zai f a (l.take k)).1 l[k]).2≠0):zai f a l=f (zai f a (l.take k)).1 l[k]:=by
 conv=>lhs;rw[<-qaV k l]
 rw[zek,if_pos h,qaT hk,zai,if_neg hn]
def Lv.zgh(a:Lv)(s:Str):Lv:={ a with own:=ins a.own s }
theorem Lv.ok.zgh{a:Lv}(h:a.ok){s:Str}(hs:s.length≤1000000000):(a.zgh s).ok:=⟨h.own.ins hs,h.done⟩
def zbY(seen:List (Int×Str×Int))(vis0:List Str)(a:Lv)(d:Decl):Lv×Int:=(a.zgh d.name,if(zaD seen 0 d.name).isSome=true\/d.name∈vis0++a.own then 7 else 0)
def zfS(seen:List (Int×Str×Int))(vis0:List Str)(a:Lv)(l:List Decl):Lv×Int:=zai (zbY seen vis0) a l
theorem Ch.zp5{h:Ch}(hk:h.ok):h.top.ok:=by
 cases h
 case one=>exact hk
 case c1=>exact hk.2
 case c2=>exact hk.2.2
 case c3=>exact hk.2.2.2
 case c4=>exact hk.2.2.2.2
theorem Ch.zp4{h:Ch}(hk:h.ok){x:Lv}(hx:x.ok):(h.set x).ok:=by
 cases h
 case one=>exact hx
 case c1=>exact⟨hk.1,hx⟩
 case c2=>exact⟨hk.1,hk.2.1,hx⟩
 case c3=>exact⟨hk.1,hk.2.1,hk.2.2.1,hx⟩
 case c4=>exact⟨hk.1,hk.2.1,hk.2.2.1,hk.2.2.2.1,hx⟩
@[simp] theorem Ch.zmt (h:Ch) (x:Lv):(h.set x).top=x:=by cases h <;> rfl
@[simp] theorem Ch.zjH (h:Ch) (x:Lv):(h.set x).vis0=h.vis0:=by cases h <;> rfl
@[simp] theorem Ch.zux (h:Ch) (x:Lv):(h.set x).low=h.low:=by cases h <;> rfl
theorem zfo(p:Prog)(n q:Int)(seen:List (Int×Str×Int))(hse:zaW seen)(h:Ch)(hk0:h.ok)(l:List Decl)(hw:(zap l).w≤1000000000):
  SS 67 [.ref h.id 0,.t (zap l)] p n q seen h (h.set (zfS seen h.vis0 h.top l).1) (zfS seen h.vis0 h.top l).2:=by
 have hml:(l.map zav).length=l.length:=qab _
 have hlb:l.length≤1000000000:=qaq (qbY (zaB zav 3 l)) hw
 unfold zfS
 have ht0:=Ch.zp5 hk0
 have hset:=fun{x:Lv} (hx:x.ok)=>Ch.zp4 hk0 hx
 clear hk0
 revert ht0 hset
 revert h
 refine Ch.lt fun h=>?_
 cases h
 all_goals
  intro g ht0 hset
  refine Sound.err rfl (fun _=>rfl) ?_
  refine so Tryz.func67 ?_
  refine TR.dead ?_
  repeat' (first|refine wu ?_|exact wkc|intro hc|refine wk2 ?_ ?_|fail)
  refine TR.zaA l.length (fun k=>(zai (zbY seen g.vis0) g.top (l.take k)).2=0/\(zai (zbY seen g.vis0) g.top (l.take k)).1.ok) (fun k=>[(0,.ref 0 0),(1,.ref g.id 0),(10,.t (zap l)),(11,.i (l.map zav).length),(12,.i k)]) (fun k=>full p n q seen (g.set (zai (zbY seen g.vis0) g.top (l.take k)).1)) ⟨rfl,ht0⟩ (fun k hlt ha=>?_) (fun ha=>?_)
  ·have hx:=zdK hlt
   have hno:l[k].name.length≤1000000000:=by have:=(zbn (qaf hlt)).1;omega
   have g1:=zcA (f:=(zbY seen g.vis0)) hlt ha.1
   have g2:=zbD (f:=(zbY seen g.vis0)) hlt ha.1
   obtain⟨ha1,ha2⟩:=ha
   generalize (zai (zbY seen g.vis0) g.top (l.take k)).1=st at*
   generalize l[k]=x at*
   have hk:=hset ha2
   have hown:=ha2.own
   have hz:((zbY seen g.vis0) st x).2=if(zaD seen 0 x.name).isSome=true\/x.name∈g.vis0++st.own then 7 else 0:=rfl
   have hz1:((zbY seen g.vis0) st x).1=st.zgh x.name:=rfl
   have hok:=ha2.zgh hno
   generalize (zbY seen g.vis0) st x=fx at*
   unfold zfm at hx
   repeat' (first|refine wkt ?_|refine wka ?_|refine wkD ?_|refine wk ?_|exact wkc|intro hc|refine wk2 ?_ ?_|(apply TO.ziZ;(iterate 4 exact rfl);assumption;assumption)|(apply TO.ziP;(iterate 3 exact rfl);assumption)|(apply TO.zqB;(iterate 4 exact rfl);assumption;assumption;exact rfl)|refine wms ?_|(apply TO.sees hk;exact rfl;exact rfl;(first|exact rfl|exact Ch.tk _ _ _ _ _);assumption)|(apply TO.defined hk;exact rfl;exact rfl;(first|exact rfl|exact Ch.tk _ _ _ _ _);assumption)|(apply TO.zjG;(iterate 4 exact rfl);assumption;decide;assumption)|fail)
   all_goals simp only[Ch.vis,Ch.zjH,Ch.zmt]at*
   all_goals first
    | ((repeat' (first|refine zab.panic ?_|refine wk ?_|fail));apply retS;(first|assumption|decide);(clear hx;first|grind|grind [orE]);(first|exact leB|exact Nat.le_refl _|(simp[Ch.len];done)|(simp[Ch.len];omega)))
    | (refine zab.zaI hlt ⟨by rw[g2];clear hx;grind,by rw[g2,hz1];exact hok⟩ ?_ (by rw[g2,hz1];rfl)
       repeat' (first|exact trivial|refine qai rfl ?_|fail))
  ·obtain⟨ha1,ha2⟩:=ha
   rw[qap]at*
   repeat' (first|refine wu ?_|exact wkc|intro hc|refine wk2 ?_ ?_|fail)
   exact zk7 ha1 rfl rfl rfl rfl
end Go.Proofs.YthmbhfgflijapaaGreatDoor
namespace Go.TL
open Go
def zgM(ops:Array Oper)(k:Nat):Bool:=(List.range ops.size).all fun j=>Nat.blt j k || (List.range j).all fun i=>(cov ops 40 (zbe ops j)).contains i
theorem zpB{ops:Array Oper}{L:Array Bool}{k j:Nat}(hs:L.size=ops.size)(hf:zgM ops k=true)(hdc:DC ops L)(hj:j∈Region.ready .any ops L)(hk:k≤j):∀i,i<j->L[i]?=some true:=by
 intro i hi
 obtain⟨h1,h2⟩:=(zbo hs).1 hj
 have hlt:=(qaj.1 h1).1
 have:=qaw.1 hf j (by simp;omega)
 simp only[qbv]at this
 rcases this with h|h
 ·simp at h;omega
 ·have:=qaw.1 h i (by simpa using hi)
  exact zcT hdc 40 _ h2 i (by simpa using this)
section rules
variable {P:Program}{all:Array Oper}
theorem zrk{r:Option Nat}{C:World->Prop}{Q:Act->Prop}{Q':Exit->Act->World->Prop}{k n2:Nat}(hd:zko all=true)(hf:zgM all k=true)(hp:∀(i:Nat) o,i<k->all[i]?=some o->Op.plain o.op=true)
  (hQ:∀(L:Array Bool) a w,L.size=all.size->(∀(i:Nat),i<k->i<all.size->L[i]?=some true)->(∀(i:Nat),k≤i->i<all.size->L[i]?=some false)->C w->Q a->wpAnyIn (Fr r) 0 P .any all Q' n2 L a w):
  ∀(u:Nat) (L M:Array Bool) (a:Act) (w:World),L.size=all.size->M.size=all.size->(∀(i:Nat),i<k->M[i]?=L[i]?)->(∀(i:Nat),k≤i->i<all.size->M[i]?=some true)->(∀(i:Nat),k≤i->i<all.size->L[i]?=some false)->
   DC all L->C w->wpAnyQIn (Fr r) 0 P .any all C Q u M a->wpAnyIn (Fr r) 0 P .any all Q' (u+n2) L a w:=by
 intro u
 have full:∀(L M:Array Bool),L.size=all.size->M.size=all.size->(∀(i:Nat),i<k->M[i]?=L[i]?)->(∀(i:Nat),k≤i->i<all.size->M[i]?=some true)->DC all L->Region.ready .any all M=[]->∀(i:Nat),i<k->i<all.size->L[i]?=some true:=by
  exact zwp
 induction u with
 | zero=>
   intro L M a w hL hM h1 h2 h3 hdc hC h
   rw[qaU]
   exact hQ L a w hL (full L M hL hM h1 h2 hdc h.1) h3 hC h.2
 | succ u ih=>
   intro L M a w hL hM h1 h2 h3 hdc hC h
   by_cases hr:Region.ready .any all M=[]
   ·exact zwdy
   ·
    obtain⟨x,hx⟩:=qcs _ hr
    have hx1:=((zbo hM).1 hx).1
    have hxl:=(qaj.1 hx1).1
    have hxk:x<k:=qbO fun hle=>by rw[h2 x hle (by omega)]at hx1;cases hx1
    have hLx:L[x]?=some false:=by rw[<-h1 x hxk];exact hx1
    rw[show u+1+n2=(u+n2)+1 from by omega]
    refine⟨fun h0=>?_,fun i hi=>?_⟩
    ·exact zwfy
    ·have hik:i<k:=qbO fun hle=>by
      have:=zpB hL hf hdc hi hle x (by omega)
      rw[this]at hLx;cases hLx
     exact zwb
theorem zmS{r:Option Nat}{Q':Exit->Act->World->Prop}{k:Nat}(hd:zko all=true)(hf:zgM all k=true):∀(l:List Oper) (p:Nat) (L:Array Bool) (a:Act) (w:World),k≤p->(∀j,l[j]?=all[p+j]?)->L.size=all.size->
   (∀(i:Nat),i<p->i<all.size->L[i]?=some true)->(∀(i:Nat),p≤i->i<all.size->L[i]?=some false)->wpListIn (Fr r) 0 P all Q' l a w->wpAnyIn (Fr r) 0 P .any all Q' l.length L a w
 | [],p,L,a,w,hk,hl,hL,h1,h2,h=>by
   exact zwq
 | o::l,p,L,a,w,hk,hl,hL,h1,h2,h=>by
   have hpo:all[p]?=some o:=by simpa using (hl 0).symm
   have hpl:=(qaj.1 hpo).1
   have hLp:=h2 p (qae _) hpl
   have hdc:DC all L:=by
    exact zwt
   refine⟨fun h0=>?_,fun i hi=>?_⟩
   ·exact zwfx
   ·have hi1:=((zbo hL).1 hi).1
    have hil:=(qaj.1 hi1).1
    have hip:p≤i:=qby fun hlt=>by rw[h1 i hlt (by omega)]at hi1;cases hi1
    have hipe:i=p:=by
     refine qaB fun hne=>?_
     have:=zpB hL hf hdc hi (by omega) p (by omega)
     rw[this]at hLp;cases hLp
    subst hipe
    have hnext:∀a' w',wpListIn (Fr r) 0 P all Q' l a' w'->wpAnyIn (Fr r) 0 P .any all Q' l.length (L.setIfInBounds i true) a' w':=by
     intro a' w' h'
     refine zmS hd hf l (i+1) (L.setIfInBounds i true) a' w' (by omega) (fun j=>?_) (by simpa using hL) (fun j hj hja=>?_) (fun j hj hja=>?_) h'
     ·exact zwem
     ·exact zwdn
     ·exact zwep
    exact zwbn
def zpO(ops:Array Oper)(k:Nat):Bool:=
 Region.noSelect ops && (Nat.ble k ops.size && (zko ops && (zgM ops k && Region.lexFrom .any ops k 0 (Array.replicate k false++Array.replicate (ops.size-k) true))))
theorem TR.zup{n:Nat}{env:Env}{H:Heap}{K:TK}(k:Nat){id:Nat}{l:List Oper}(hm:P.follows .mixedOrders=true)(hB:zpO l.toArray k=true)(hp:(l.take k).all (fun o=>Op.plain o.op)=true)
  (h:TO true P n l.toArray (l.take k) env H (zaK P n l.toArray (l.drop k) H K)):TR P n (.region id l.toArray true) env H K:=by
 simp only[zpO,qau]at hB
 obtain⟨hB1,hB2,hB3,hB4,hB5⟩:=hB
 have hk:k≤l.length:=by simpa using qag hB2
 intro φ m a h1 h2 h3 h4
 have hq:=h φ m a h1 h2 h3 h4
 simp only at hq
 refine zbs (wpIn_region_any hm ?_)
 have hlt:(l.take k).length=k:=by simp;omega
 have:=zrk (P:=P) (all:=l.toArray) (r:=φ.r) (C:=Keeps m.w) (Q:=fun a'=>∀w',Keeps m.w w'->wpListIn (Fr φ.r) 0 P l.toArray (Post φ m n K) (l.drop k) a' w')
  (Q':=Post φ m n K) (k:=k) (n2:=(l.drop k).length) hB3 hB4 (fun i o hi ho=>qaw.1 hp o (qas (i:=i) (by rw[qaS,if_pos hi];simpa using ho)))
  (fun L a' w' hL g1 g2 hC hQ=>zmS hB3 hB4 (l.drop k) k L a' w' (qae _) (fun j=>by simp) hL g1 g2 (hQ w' hC))
  k (Array.replicate l.toArray.size false) (Array.replicate k false++Array.replicate (l.toArray.size-k) true) a { m.w with drawn:=m.w.drawn+1 } (by simp) (by simp;omega)
  (fun i hi=>by
    rw[qa1 (by simpa using hi),qaR,qaR,if_pos hi,if_pos (by simp;omega)])
  (fun i hi hia=>by
    rw[qbd (by simpa using hi),qaR,if_pos (by simp at hia⊢;omega)])
  (fun i hi hia=>by rw[qaR,if_pos hia])
  (fun i hi=>by rw[qaR]at hi;split at hi <;> cases hi)
  ⟨rfl,rfl,rfl,qae _,fun _ _=>rfl⟩ ?_
 ·exact zwel
 ·exact zwh
theorem TR.zsg{n:Nat}{env:Env}{H:Heap}{K:TK}{id:Nat}{l:List Oper}(hm:P.follows .mixedOrders=true)(hB:zpO l.toArray (l.length-1)=true)(hp:(l.take (l.length-1)).all (fun o=>Op.plain o.op)=true)
  (h:TO true P n l.toArray (l.take (l.length-1)) env H (zaK P n l.toArray (l.drop (l.length-1)) H K)):TR P n (.region id l.toArray true) env H K:=TR.zup _ hm hB hp h
end rules
end Go.TL
