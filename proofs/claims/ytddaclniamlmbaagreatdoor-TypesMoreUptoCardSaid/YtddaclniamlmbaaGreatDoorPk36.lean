import Derived.DeepKeys
import Derived.Test.YtddaclniamlmbaaGreatDoorPk28
import Derived.Test.YtddaclniamlmbaaGreatDoorPk35
set_option linter.unusedSimpArgs false
set_option linter.unusedVariables false
namespace Go.TL
open Go
section rules
variable {P:Program}{n:Nat}{env:Env}{H:Heap}{K:TK}{all:Array Oper}{rest:List Oper}{tab:Tab}{q:Bool}
variable {d:Nat}{ty:TypeId}{pos:String}{aft:Array Edge}
theorem TO.eqSame{t t':TypeId}{x y:Operand}{sx sy:SV}{arr:Array Value}{m:Nat}(hd:Nat.ble (d+1) n=true)(hm:Nat.ble m 10000=true)(hk:P.keyTypeAt m t=true)
  (hwide:(match P.underlying t with|some (.array _ _)|some (.struct _)=>true|_=>false)=true)(hg:P.eqGuardType P.depth t=false)
  (hx:env.val x=some sx)(hux:∀m v,SRel m sx v->v= .agg arr)(hy:env.val y=some sy)(huy:∀m v,SRel m sy v->v= .agg arr)(hl:∃l,keyOf P t (.agg arr)=some l)
  (k:TO q P n all rest ((d,.b true)::env) H K):TO q P n all (⟨some d,.binOp .eql t x y t',ty,pos,aft,none⟩::rest) env H K:=
 TO.op hd (fun m ac h1 h2 h3=>⟨.bool true,fun w' hw'=>by
  obtain⟨l,hl⟩:=hl
  obtain⟨r,hr,hrr⟩:=run_equal_deep (P:=P) w' (Nat.le_of_ble_eq_true hm) hk hwide hl hl
  have hrt:r=true:=hrr.2 rfl
  subst hrt
  have e1:=hux _ _ (h3.val hx)
  have e2:=huy _ _ (h3.val hy)
  simp[execOp,e1,e2,eqGuard,hg,Go.binOp,hr],.t _ _ (.v _)⟩) k
end rules
end Go.TL
namespace Go.Proofs.YtddaclniamlmbaaGreatDoor
open Go Go.TL
attribute [local irreducible] TR TO Then InBlock RetK Sound LoopK Kf GG ThenL
abbrev whereV (a b:Int):Value:=.agg #[.int .i64 a,.int .i64 b]
theorem wTy:Tryz.prog.keyType 56=true:=by kernel_rfl
theorem wCells:Tryz.prog.cellsOf 56=2:=by kernel_rfl
theorem keyLitsW(N:Nat){a b:Int}(ha:(Lit.int .i64 a).wf=true)(hb:(Lit.int .i64 b).wf=true):
  (Tryz.prog.keyLits (N+1+1) 56 [.int .i64 a,.int .i64 b])=some [.int .i64 a,.int .i64 b]:=by
 have e1:∀c,Tryz.prog.keyLits (N+1) 3 [c]=(match c with| .int q' n=>if q'= .i64/\(Lit.int .i64 n).wf=true then some [.int .i64 n] else none|_=>none):=fun c=>by
  unfold Program.keyLits
  simp only[Tryz.underlying3]
  cases c <;> rfl
 unfold Program.keyLits
 simp only[Tryz.underlying56,wCells]
 simp only[List.length_cons,List.length_nil,List.mapM_cons,List.mapM_nil,cells3,List.drop_zero,List.take,List.drop,e1,ha,hb]
 simp
theorem keyW{a b:Int}(ha:-9223372036854775808≤a/\a≤9223372036854775807)(hb:-9223372036854775808≤b/\b≤9223372036854775807):∃l,keyOf Tryz.prog 56 (whereV a b)=some l:=by
 have hw:∀ {k:Int},(-9223372036854775808≤k/\k≤9223372036854775807)->(Lit.int .i64 k).wf=true:=fun{k} hk=>by
  simp only[Lit.wf,Bool.and_eq_true,decide_eq_true_eq]
  exact⟨by show(-9223372036854775808:Int)≤k;omega,by show k≤(9223372036854775807:Int);omega⟩
 have h5:(whereV a b).formed Tryz.prog 56=true:=by
  simp only[Value.formed,Tryz.underlying56,wCells];rfl
 obtain⟨N,hN⟩:=typesN
 refine⟨.string (keyBytes [.int .i64 a,.int .i64 b]),?_⟩
 rw[keyOf,Tryz.underlying56]
 simp only[wTy,h5,hN,Value.cells,Bool.and_self,if_true,keyLitsW N (hw ha) (hw hb),Option.map_some]
theorem srel_two{m:M}{a b:Int}{v:Value}(h:SRel m (.t (.ag [T.i a,T.i b])) v):v=whereV a b:=by
 cases h with
 | t _ _ h=>
   cases h with
   | ag _ arr hs h1 hr=>
     obtain⟨l⟩:=arr
     match l,hs with
     | [x,y],_=>
       have e1:=hr 0 _ x rfl rfl
       have e2:=hr 1 _ y rfl rfl
       cases e1;cases e2;rfl
theorem wEqW{G Q:Prop}(k:Q)(h:Hold Q->G:=by
  intro k
  (apply Go.TL.TO.eqSame (m:=3);exact rfl;exact rfl;kernel_rfl;kernel_rfl;kernel_rfl;exact rfl;(intro m v hv;exact Go.Proofs.YtddaclniamlmbaaGreatDoor.srel_two hv);exact rfl;(intro m v hv;exact Go.Proofs.YtddaclniamlmbaaGreatDoor.srel_two hv);exact Go.Proofs.YtddaclniamlmbaaGreatDoor.keyW (by omega) (by omega);exact k.p)):G:=h ⟨k⟩
theorem wvS{G Q:Prop}{f:FuncId}{cargs:List SV}{v:SV}(hs:Pure Tryz.prog f cargs v)(k:Q)(h:Pure Tryz.prog f cargs v->Hold Q->G:=by
  intro hs k
  (apply Go.TL.TO.callV hs;exact rfl;exact rfl;exact rfl;(repeat' (first|exact trivial|exact Go.TL.Le.refl _|refine And.intro ?_ ?_|refine Go.TL.Le.treeS rfl ?_|exact Go.TL.TLs.refl _|exact Go.TL.TLs.nil _|refine Go.TL.TLs.agL ?_|refine Go.TL.TLs.slL ?_|fail));exact rfl;exact rfl;exact k.p)):G:=h hs ⟨k⟩
theorem smallSmpl:SmallP smpl:=⟨by decide,fun n h=>by simp[smpl]at h;subst h;exact⟨by decide,by decide,by decide⟩,fun n h d hd=>by
 simp[smpl]at h;subst h
 simp[varsL,smplN]at hd
 rcases hd with rfl|rfl <;> decide⟩
theorem exQ_C:exC exQ=[T.i 3,T.i 11,T.i 0,T.i 0,T.s [],.sl 6 [.ag [T.i 2,T.i 0,T.i 0,T.i 0,T.s [97],.sl 6 []],.ag [T.i 1,T.i 0,T.i 2,T.i 1,T.s [],.sl 6 []]]]:=by
 show[_,_,_,_,_,T.sl 6 [exT exA',exT ex1]]=_
 rw[exT_eq,exT_eq];rfl
theorem exN_C:exC exN=[T.i 3,T.i 3,T.i 0,T.i 0,T.s [],.sl 6 [.ag [T.i 2,T.i 0,T.i 0,T.i 0,T.s [97],.sl 6 []],.ag [T.i 1,T.i 0,T.i 1,T.i 1,T.s [],.sl 6 []]]]:=by
 show[_,_,_,_,_,T.sl 6 [exT exA',exT exY]]=_
 rw[exT_eq,exT_eq];rfl
theorem exA_C:exC exA'=[T.i 2,T.i 0,T.i 0,T.i 0,T.s [97],.sl 6 []]:=rfl
theorem wSmpl:(T.ag (progC smpl)).w≤100000000:=by
 show(T.ag [.sl 2 [],.sl 8 [.ag [T.s [102],.sl 3 [.ag [T.s [97],T.i 2,.sl 3 []]],.sl 3 [.ag [T.s [120],T.i 1,.sl 3 []]],.sl 3 [],.sl 7 [.ag [.sl 1 [T.s [120]],T.i 1,T.i 0,T.i 2,T.i 1,T.s [],.sl 6 []]],.sl 1 [],.sl 6 [],.sl 6 []]]]).w≤_
 simp[w_ag,w_sl,T.w]
 decide +kernel
theorem awake_sound:Pure Tryz.prog 12 [] (.b true):=by
 have c0:=sample_sound
 have c1:=typesX_sound smpl wSmpl
 rw[tySmpl]at c1
 have c2:=of_sound11 smpl smallSmpl (i64 0) exQ (by rw[show wEx exQ=3 from wEx_two _ _ _ _ _ _ _ _ _ _ _ _ _ _ _];decide)
 rw[ofQ,exQ_C]at c2
 have c3:=of_sound11 smpl smallSmpl (i64 0) exN (by rw[show wEx exN=3 from wEx_two _ _ _ _ _ _ _ _ _ _ _ _ _ _ _];decide)
 rw[ofN,exN_C]at c3
 have c4:=of_sound11 smpl smallSmpl (i64 1) exA' (by rw[show wEx exA'=1 from wEx_leaf _ _ _ _ _];decide)
 rw[ofA,exA_C]at c4
 have c5:=same_sound [1] [1] (by decide)
 rw[show decide (([1]:List Int)=[1])=true from rfl]at c5
 dsimp only at c1 c2 c3 c4
 refine so Tryz.func12 ?_
 repeat' (first|refine wEqW ?_|refine wkt ?_|refine wka ?_|refine wv c0 ?_|refine wv c1 ?_|refine wvS c2 ?_|refine wvS c3 ?_|refine wvS c4 ?_|refine wvS c5 ?_|refine wEqW ?_|refine wk ?_|exact wkc|intro hc|refine wk2 ?_ ?_|fail)
 exact wkr
theorem callT_len{w:Plc}(hp:∀n∈w.p.nodes,n.outs.length≤100000000)(e:Ex)(l:List Int)(b:Bool):(callT w e l b).1.length≤100000000:=by
 unfold callT
 split
 ·simp
 ·split
  ·simp
  ·rename_i n hn
   have:=hp n (List.mem_of_getElem? hn)
   split
   ·simp
   ·split
    ·simp
    ·split
     ·simp
     ·simpa using this
theorem kindT_len{w:Plc}(hp:∀n∈w.p.nodes,n.outs.length≤100000000)(e:Ex)(l:List Int)(b:Bool):(kindT w e l b).1.length≤100000000:=by
 have:=callT_len hp e l b
 unfold kindT
 repeat' split
 all_goals first|exact this|simp
theorem resT_len{w:Plc}(hp:∀n∈w.p.nodes,n.outs.length≤100000000)(e:Ex)(b:Bool):(resT w b e).1.length≤100000000:=by
 rw[resT_eq]
 split
 ·simp
 ·exact kindT_len hp _ _ _
theorem ofT_len{p:Prog}(hp:SmallP p)(node:I64)(e:Ex):(ofT p node e).1.length≤100000000:=by
 unfold ofT
 split
 ·simp
 ·split
  ·simp
  ·split
   ·exact resT_len (fun n h=>(hp.each n h).outs) _ _
   ·simp
theorem smallP_of{p:Prog}(hw:(T.ag (progC p)).w≤100000000):SmallP p/\(∀u∈p.nodes,(nodT u).w≤100000000)/\p.nodes.length≤100000000:=by
 have l1:(T.sl 2 (p.enums.map enT)).w+(nodesT p.nodes).w≤(T.ag (progC p)).w:=by rw[w_ag];simp only[progC,List.map_cons,List.map_nil,List.sum_cons,List.sum_nil];omega
 have hnT:(nodesT p.nodes).w=(T.sl 8 (p.nodes.map nodT)).w:=rfl
 have b2:=w_lenM nodT 8 p.nodes
 have hln:∀u∈p.nodes,(nodT u).w≤100000000:=fun u hu=>by
  have h2:=w_inM (f:=nodT) (sz:=8) hu
  omega
 exact⟨⟨by omega,fun u hu=>smallN_of (hln u hu),fun u hu=>clocks_of (hln u hu)⟩,hln,by omega⟩
theorem w_int(z:Int):(T.v (.int .i64 z)).w=1:=by rw[T.w];rfl
theorem flat8(l:List Nod):(((l.map nodT).map T.cells).flatten.map SV.t).length=l.length*8:=by
 rw[List.length_map,(flat_cells (l.map nodT) (fun e he=>by obtain⟨a,_,rfl⟩:=List.mem_map.1 he;exact(show(nodT a).cells.length=8 from rfl))).1,List.length_map]
section rules
variable {P:Program}{n:Nat}{env:Env}{H:Heap}{K:TK}{tab:Tab}{q:Bool}{all:Array Oper}{rest:List Oper}{d:Nat}{ty:TypeId}{pos:String}{aft:Array Edge}
theorem TO.loadC(hT:TabOk P tab){t:TypeId}{i:TyI}{x:Operand}{cs C:List SV}{id off:Nat}(hd:Nat.ble (d+1) n=true)(ht:tab.get t=some i)(hk:i.k.agg=true)
  (hx:env.val x=some (.ref id off))(hH:H[id]?=some (.cells cs))(hc:off+i.size≤cs.length)(hC:(cs.drop off).take i.size=C)(k:TO q P n all rest ((d,.ag C)::env) H K):TO q P n all (⟨some d,.load t x,ty,pos,aft,none⟩::rest) env H K:=
 TO.load_ref_agg hT hd ht hk hx hH hc (by rw[hC];exact k)
end rules
set_option maxHeartbeats 8000000 in
theorem more_main (hA:Pure Tryz.prog 12 [] (.b true)) (es:List En) (pre:List Nod) (n:Nod) (e:Ex) (h:wEx e<600) (hw:(T.ag (progC ⟨es,pre++[n]⟩)).w≤4000000) (hwe:(exT e).w≤4000000) (c:UInt8):Pure Tryz.prog 3 [.t (.ag (progC ⟨es,pre++[n]⟩)),.t (.ag (exC e)),u8V c] (.b true):=by
 have hl:=light_sound e
 rw[decide_eq_true h]at hl
 have hml:((pre++[n]).map nodT).length=(pre++[n]).length:=List.length_map _
 have hlen:(pre++[n]).length=pre.length+1:=by simp
 have hpb:pre.length≤1000000000:=by
  have h1:=prog_w es (pre++[n])
  have h2:=w_lenM nodT 8 (pre++[n])
  omega
 have hnw:(nodT n).w≤4000000:=by
  have h1:=prog_w es (pre++[n])
  have h2:=w_inM (f:=nodT) (sz:=8) (l:=pre++[n]) (x:=n) (by simp)
  omega
 have hnd:=w_nod n
 have hab:n.assume.length≤4000000:=by have:=w_lenM exT 6 n.assume;omega
 have hlb:n.locals.length≤4000000:=by
  have h1:=w_lenM declT 3 n.locals
  have h2:(declsT n.locals).w=(T.sl 3 (n.locals.map declT)).w:=rfl
  omega
 have hk:(((pre++[n]).map nodT).length:Int)-1=(pre.length:Int):=by omega
 have hfe:=flat_end pre n
 have hfl:(((pre.map nodT).map T.cells).flatten.map SV.t).length=pre.length*8:=flat8 pre
 have hnc:(nodC n).map SV.t=[.t (.s n.name),.t (declsT n.ins),.t (declsT n.outs),.t (declsT n.locals),.t (.sl 7 (n.eqs.map equT)),.t (.sl 1 (n.autos.map autoT)),.t (.sl 6 (n.assume.map exT)),.t (.sl 6 (n.ensure.map exT))]:=rfl
 rw[hnc]at hfe
 generalize hN:(pre++[n]).map nodT=N at*
 have hpc:progC ⟨es,pre++[n]⟩=[.sl 2 (es.map enT),.sl 8 N]:=by rw[<-hN];rfl
 have hfe1:=flat_end pre (clmN n e)
 have ht64:(-9223372036854775808:Int)≤1+((c.toNat % 3:Nat):Int)/\1+((c.toNat % 3:Nat):Int)≤9223372036854775807:=by omega
 have hex:∃t:I64,t.1=1+((c.toNat % 3:Nat):Int):=⟨⟨_,ht64⟩,rfl⟩
 obtain⟨t,htv⟩:=hex
 obtain⟨d,hd⟩:∃d:Decl,d=⟨freshL (knownL 100000000 ⟨es,pre++[clmN n e]⟩) [119],t,[]⟩:=⟨_,rfl⟩
 have hfe2:=flat_end pre (moreN n e d)
 have hm2:(nodC (moreN n e d)).map SV.t=[.t (.s n.name),.t (declsT n.ins),.t (declsT n.outs),.t (.sl 3 ((n.locals.map declT)++[declT d])),.t (.sl 7 (n.eqs.map equT)),.t (.sl 1 (n.autos.map autoT)),.t (.sl 6 ((n.assume.map exT)++[exT e])),.t (.sl 6 (n.ensure.map exT))]:=by
  simp only[nodC,moreN,declsT,List.map_cons,List.map_nil,List.map_append]
 have hdT:declT d= .ag [.s (freshL (knownL 100000000 ⟨es,pre++[clmN n e]⟩) [119]),.v (.int .i64 (1+((c.toNat % 3:Nat):Int))),.sl 3 []]:=by rw[hd,<-htv];rfl
 rw[hm2,hdT,exT_eq]at hfe2
 obtain⟨m,hm⟩:∃m:Nod,m=⟨freshL (knownL 100000000 ⟨es,pre++[clmN n e]⟩) [103],[],[⟨[97],i64 1,[]⟩],[],[],[],[],[]⟩:=⟨_,rfl⟩
 have hmT:nodT m= .ag [.s (freshL (knownL 100000000 ⟨es,pre++[clmN n e]⟩) [103]),.sl 3 [],.sl 3 [.ag [.s [97],.v (.int .i64 1),.sl 3 []]],.sl 3 [],.sl 7 [],.sl 1 [],.sl 6 [],.sl 6 []]:=by rw[hm];rfl
 have hN2:(pre++[moreN n e d,m]).map nodT=(pre++[moreN n e d]).map nodT++[nodT m]:=by simp
 have hml2:N.length=((pre++[moreN n e d]).map nodT).length:=by rw[hml];simp
 have hsz2:∀a∈(pre++[moreN n e d]).map nodT,a.cells.length=8:=fun a ha=>by obtain⟨b,_,rfl⟩:=List.mem_map.1 ha;rfl
 obtain⟨nd,hnd'⟩:∃nd:I64,nd.1=(pre.length:Int):=⟨⟨(pre.length:Int),by omega,by omega⟩,rfl⟩
 have hsame:=more_same es pre n m e t [119] nd hnd'
 rw[<-hd]at hsame
 have hq2:=w_q2 es pre n m e d
 have hpc2:progC ⟨es,pre++[moreN n e d,m]⟩=[.sl 2 (es.map enT),.sl 8 ((pre++[moreN n e d]).map nodT++[nodT m])]:=by rw[<-hN2];rfl
 rw[hmT]at hpc2
 have hdw:(declT d).w≤1000:=by
  rw[hdT,w_ag]
  have:=fresh_len ⟨es,pre++[clmN n e]⟩ (by rw[w_q1];omega) 119
  simp only[List.map_cons,List.map_nil,List.sum_cons,List.sum_nil,w_s,w_sl,w_int]
  omega
 have hmw:(nodT m).w≤1000:=by
  rw[hmT,w_ag]
  have:=fresh_len ⟨es,pre++[clmN n e]⟩ (by rw[w_q1];omega) 103
  simp only[List.map_cons,List.map_nil,List.sum_cons,List.sum_nil,w_s,w_sl,w_ag,w_int,List.length_cons,List.length_nil]
  omega
 have of1:=of_sound11 ⟨es,pre++[n]⟩ (smallP_of (p:=⟨es,pre++[n]⟩) (by omega)).1 nd e (by omega)
 have of2:=of_sound11 ⟨es,pre++[moreN n e d,m]⟩ (smallP_of (p:=⟨es,pre++[moreN n e d,m]⟩) (by omega)).1 nd e (by omega)
 have hsa:=same_sound (ofT ⟨es,pre++[n]⟩ nd e).1 (ofT ⟨es,pre++[n]⟩ nd e).1 (by have:=ofT_len (smallP_of (p:=⟨es,pre++[n]⟩) (by omega)).1 nd e;omega)
 rw[decide_eq_true rfl]at hsa
 rw[hsame,hpc2]at of2
 clear hsame hpc2 hq2 hdT hmT hm2 hN2
 generalize (pre++[moreN n e d]).map nodT=N2 at*
 rw[hpc,hnd']at of1
 rw[hnd']at of2
 clear hd
 generalize ofT ⟨es,pre++[n]⟩ nd e=r at*
 have hq1:=w_q1 es pre n e
 have fw:=fresh_sound2 ⟨es,pre++[clmN n e]⟩ (by omega) [119] (by decide)
 have fg:=fresh_sound2 ⟨es,pre++[clmN n e]⟩ (by omega) [103] (by decide)
 have lw:=fresh_len ⟨es,pre++[clmN n e]⟩ (by omega) 119
 have lg:=fresh_len ⟨es,pre++[clmN n e]⟩ (by omega) 103
 have hcl:(nodC (clmN n e)).map SV.t=[.t (.s n.name),.t (declsT n.ins),.t (declsT n.outs),.t (declsT n.locals),.t (.sl 7 (n.eqs.map equT)),.t (.sl 1 (n.autos.map autoT)),.t (.sl 6 ((n.assume.map exT)++[exT e])),.t (.sl 6 (n.ensure.map exT))]:=by
  simp only[nodC,clmN,List.map_cons,List.map_nil,List.map_append]
 rw[hcl]at hfe1
 generalize ((pre.map nodT).map T.cells).flatten.map SV.t=FA at*
 have hc8:c.toNat<256:=c.toNat_lt
 have hLe:∀H:Heap,H[1]?=some (.cells (FA++[.t (.s n.name),.t (declsT n.ins),.t (declsT n.outs),.t (declsT n.locals),.t (.sl 7 (n.eqs.map equT)),.t (.sl 1 (n.autos.map autoT)),.t (.sl 6 ((n.assume.map exT)++[exT e])),.t (.sl 6 (n.ensure.map exT))]))->LeB H (.ag [.t (.sl 2 (es.map enT)),.ms 8 1 0 N.length]) (.t (.ag (progC ⟨es,pre++[clmN n e]⟩))):=fun H hH=>
  LeB.ag2 (LeB.t _) (LeB.ms hH (fun j x hj=>by rw[hfe1]at hj;rw[Nat.zero_add];exact hj) (by rw[hml,List.length_map];simp) (fun a ha=>by obtain⟨b,_,rfl⟩:=List.mem_map.1 ha;rfl))
 generalize hgw:freshL (knownL 100000000 ⟨es,pre++[clmN n e]⟩) [119]=w at*
 generalize hgg:freshL (knownL 100000000 ⟨es,pre++[clmN n e]⟩) [103]=g at*
 rw[exT_eq]at hLe
 clear hw hwe hnw hnd hq1 lw lg ht64 hgw hgg hdw hmw hfe1 hcl hnc
 rw[hpc]
 unfold exC at*
 refine so Tryz.func3 ?_
 repeat' (first|refine wkb ?_|fail)
 apply TO.sub64
 iterate 3 exact rfl
 omega
 omega
 rw[hk]
 repeat' (first|refine wkb ?_|refine wv hl ?_|(apply TO.want;exact rfl)|refine LoopK.exit ?_|exact wkc|intro hc|refine wk2 ?_ ?_|fail)
 repeat' (first|(apply TO.alloc tabOk;exact rfl;exact rfl;exact rfl)|(apply TO.build0 tabOk;iterate 5 exact rfl)|(apply TO.append0M tabOk;(iterate 13 exact rfl);omega;omega;exact(show _=[Blk.cells [SV.t (T.sl 2 (es.map enT)),SV.t (T.sl 8 N)],Blk.cells (FA++[SV.t (.s n.name),SV.t (declsT n.ins),SV.t (declsT n.outs),SV.t (declsT n.locals),SV.t (.sl 7 (n.eqs.map equT)),SV.t (.sl 1 (n.autos.map autoT)),SV.t (.sl 6 (n.assume.map exT)),SV.t (.sl 6 (n.ensure.map exT))])] by rw[<-hfe];rfl))|(apply TO.indexAddr_ms tabOk;(iterate 7 exact rfl);omega;omega)|(apply TO.loadC tabOk;(iterate 4 exact rfl);exact rfl;exact(show 0+(pre.length:Int).toNat*8+8≤(FA++[SV.t (.s n.name),SV.t (declsT n.ins),SV.t (declsT n.outs),SV.t (declsT n.locals),SV.t (.sl 7 (n.eqs.map equT)),SV.t (.sl 1 (n.autos.map autoT)),SV.t (.sl 6 (n.assume.map exT)),SV.t (.sl 6 (n.ensure.map exT))]).length by rw[List.length_append,hfl];show 0+pre.length*8+8≤pre.length*8+8;omega);exact drop_end (A:=FA) (B:=[SV.t (.s n.name),SV.t (declsT n.ins),SV.t (declsT n.outs),SV.t (declsT n.locals),SV.t (.sl 7 (n.eqs.map equT)),SV.t (.sl 1 (n.autos.map autoT)),SV.t (.sl 6 (n.assume.map exT)),SV.t (.sl 6 (n.ensure.map exT))]) (by rw[hfl];show _=0+pre.length*8;omega) rfl)|refine Go.TL.TR.region ?_|(apply Go.TL.TO.go tabOk 0 true;exact rfl;(first|apply Go.TL.GG.to|apply Go.TL.GG.stop|apply Go.TL.GG.tr0|apply Go.TL.GG.tr|apply Go.TL.GG.ex))|(apply Go.TL.TR.go0 tabOk 0 true;exact rfl;(first|apply Go.TL.GG.to|apply Go.TL.GG.stop|apply Go.TL.GG.tr0|apply Go.TL.GG.tr|apply Go.TL.GG.ex))|(apply Go.TL.TR.go tabOk 0 true;exact rfl;(first|apply Go.TL.GG.to|apply Go.TL.GG.stop|apply Go.TL.GG.tr0|apply Go.TL.GG.tr|apply Go.TL.GG.ex))|(apply Go.TL.TExit.go tabOk 0 true;exact rfl;(first|apply Go.TL.GG.to|apply Go.TL.GG.stop|apply Go.TL.GG.tr0|apply Go.TL.GG.tr|apply Go.TL.GG.ex))|fail)
 refine rgXf 1 (g:=True) [(.sl 6 [] 3,1,0),(.ref 2 6,0,4),(.t (.sl 6 (n.assume.map exT)),0,1),(.sl 6 (n.assume.map exT) 3,1,0),(.t (T.ag [T.n e.kind,T.n e.op,T.n e.t,T.n e.v,.s e.name,.sl 6 (e.args.map exT)]),0,4),(.t (.sl 6 [T.ag [T.n e.kind,T.n e.op,T.n e.t,T.n e.v,.s e.name,.sl 6 (e.args.map exT)]]),0,4),(.sl 6 ((n.assume.map exT)++[T.ag [T.n e.kind,T.n e.op,T.n e.t,T.n e.v,.s e.name,.sl 6 (e.args.map exT)]]) 3,1,0),(.ref 2 6,0,4),(.any,1,0)] [[.cells [.t (.sl 2 (es.map enT)),.ms 8 1 0 N.length],.cells (FA++([.t (.s n.name),.t (declsT n.ins),.t (declsT n.outs),.t (declsT n.locals),.t (.sl 7 (n.eqs.map equT)),.t (.sl 1 (n.autos.map autoT)),.t (.sl 6 (n.assume.map exT)),.t (.sl 6 (n.ensure.map exT))]:List SV)),.cells ([.t (.s n.name),.t (declsT n.ins),.t (declsT n.outs),.t (declsT n.locals),.t (.sl 7 (n.eqs.map equT)),.t (.sl 1 (n.autos.map autoT)),.t (.sl 6 (n.assume.map exT)),.t (.sl 6 (n.ensure.map exT))]:List SV)],[.cells [.t (.sl 2 (es.map enT)),.ms 8 1 0 N.length],.cells (FA++([.t (.s n.name),.t (declsT n.ins),.t (declsT n.outs),.t (declsT n.locals),.t (.sl 7 (n.eqs.map equT)),.t (.sl 1 (n.autos.map autoT)),.t (.sl 6 (n.assume.map exT)),.t (.sl 6 (n.ensure.map exT))]:List SV)),.cells ([.t (.s n.name),.t (declsT n.ins),.t (declsT n.outs),.t (declsT n.locals),.t (.sl 7 (n.eqs.map equT)),.t (.sl 1 (n.autos.map autoT)),.t (.sl 6 (n.assume.map exT)),.t (.sl 6 (n.ensure.map exT))]:List SV),.tail 0],[.cells [.t (.sl 2 (es.map enT)),.ms 8 1 0 N.length],.cells (FA++([.t (.s n.name),.t (declsT n.ins),.t (declsT n.outs),.t (declsT n.locals),.t (.sl 7 (n.eqs.map equT)),.t (.sl 1 (n.autos.map autoT)),.t (.sl 6 (n.assume.map exT)),.t (.sl 6 (n.ensure.map exT))]:List SV)),.cells ([.t (.s n.name),.t (declsT n.ins),.t (declsT n.outs),.t (declsT n.locals),.t (.sl 7 (n.eqs.map equT)),.t (.sl 1 (n.autos.map autoT)),.t (.sl 6 (n.assume.map exT)),.t (.sl 6 (n.ensure.map exT))]:List SV),.tail (n.assume.map exT).length],[.cells [.t (.sl 2 (es.map enT)),.ms 8 1 0 N.length],.cells (FA++([.t (.s n.name),.t (declsT n.ins),.t (declsT n.outs),.t (declsT n.locals),.t (.sl 7 (n.eqs.map equT)),.t (.sl 1 (n.autos.map autoT)),.t (.sl 6 (n.assume.map exT)),.t (.sl 6 (n.ensure.map exT))]:List SV)),.cells ([.t (.s n.name),.t (declsT n.ins),.t (declsT n.outs),.t (declsT n.locals),.t (.sl 7 (n.eqs.map equT)),.t (.sl 1 (n.autos.map autoT)),.t (.sl 6 (n.assume.map exT)),.t (.sl 6 (n.ensure.map exT))]:List SV),.tail ((n.assume.map exT).length+1)],[.cells [.t (.sl 2 (es.map enT)),.ms 8 1 0 N.length],.cells (FA++([.t (.s n.name),.t (declsT n.ins),.t (declsT n.outs),.t (declsT n.locals),.t (.sl 7 (n.eqs.map equT)),.t (.sl 1 (n.autos.map autoT)),.t (.sl 6 (n.assume.map exT)),.t (.sl 6 (n.ensure.map exT))]:List SV)),.cells ([.t (.s n.name),.t (declsT n.ins),.t (declsT n.outs),.t (declsT n.locals),.t (.sl 7 (n.eqs.map equT)),.t (.sl 1 (n.autos.map autoT)),.sl 6 ((n.assume.map exT)++[T.ag [T.n e.kind,T.n e.op,T.n e.t,T.n e.v,.s e.name,.sl 6 (e.args.map exT)]]) 3,.t (.sl 6 (n.ensure.map exT))]:List SV),.tail ((n.assume.map exT).length+1)]] ?_ (fun _=>?_)
 ·repeat' (first|(apply TO.build0 tabOk;iterate 5 exact rfl)|(apply TO.append0 tabOk;(iterate 13 exact rfl);(simp only[List.length_map];omega);exact rfl)|(apply TO.appendB tabOk;(iterate 13 exact rfl);(simp only[List.length_map,List.length_cons,List.length_nil];omega);exact rfl)|exact trivial|exact⟨⟨rfl,rfl⟩,trivial⟩|exact And.intro rfl rfl|refine And.intro (fun env=>?_) ?_|refine And.intro ?_ ?_|refine wkb ?_|refine wk ?_|fail)
  done
 repeat' (first|(apply TO.forget 2 6;exact rfl;exact rfl;exact rfl)|(apply TO.indexAddr_ms tabOk;(iterate 7 exact rfl);omega;omega)|fail|refine Go.TL.TR.region ?_|(apply Go.TL.TO.go tabOk 0 true;exact rfl;(first|apply Go.TL.GG.to|apply Go.TL.GG.stop|apply Go.TL.GG.tr0|apply Go.TL.GG.tr|apply Go.TL.GG.ex))|(apply Go.TL.TR.go0 tabOk 0 true;exact rfl;(first|apply Go.TL.GG.to|apply Go.TL.GG.stop|apply Go.TL.GG.tr0|apply Go.TL.GG.tr|apply Go.TL.GG.ex))|(apply Go.TL.TR.go tabOk 0 true;exact rfl;(first|apply Go.TL.GG.to|apply Go.TL.GG.stop|apply Go.TL.GG.tr0|apply Go.TL.GG.tr|apply Go.TL.GG.ex))|(apply Go.TL.TExit.go tabOk 0 true;exact rfl;(first|apply Go.TL.GG.to|apply Go.TL.GG.stop|apply Go.TL.GG.tr0|apply Go.TL.GG.tr|apply Go.TL.GG.ex))|fail)
 apply TO.store tabOk
 iterate 6 exact rfl
 exact Nat.le_of_ble_eq_true rfl
 exact rfl
 exact(show 0+(pre.length:Int).toNat*8+8≤(FA++([.t (.s n.name),.t (declsT n.ins),.t (declsT n.outs),.t (declsT n.locals),.t (.sl 7 (n.eqs.map equT)),.t (.sl 1 (n.autos.map autoT)),.t (.sl 6 (n.assume.map exT)),.t (.sl 6 (n.ensure.map exT))]:List SV)).length by rw[List.length_append,hfl];show 0+pre.length*8+8≤pre.length*8+8;omega)
 exact(congrArg (fun z=>([Blk.cells [.t (.sl 2 (es.map enT)),.ms 8 1 0 N.length],Blk.cells z,Blk.cells ([.t (.s n.name),.t (declsT n.ins),.t (declsT n.outs),.t (declsT n.locals),.t (.sl 7 (n.eqs.map equT)),.t (.sl 1 (n.autos.map autoT)),.t (.sl 6 ((n.assume.map exT)++[T.ag [T.n e.kind,T.n e.op,T.n e.t,T.n e.v,.s e.name,.sl 6 (e.args.map exT)]])),.t (.sl 6 (n.ensure.map exT))]:List SV),.tail ((n.assume.map exT).length+1)]:Heap)) (splice_end (A:=FA) (B:=([.t (.s n.name),.t (declsT n.ins),.t (declsT n.outs),.t (declsT n.locals),.t (.sl 7 (n.eqs.map equT)),.t (.sl 1 (n.autos.map autoT)),.t (.sl 6 (n.assume.map exT)),.t (.sl 6 (n.ensure.map exT))]:List SV)) (C:=([.t (.s n.name),.t (declsT n.ins),.t (declsT n.outs),.t (declsT n.locals),.t (.sl 7 (n.eqs.map equT)),.t (.sl 1 (n.autos.map autoT)),.t (.sl 6 ((n.assume.map exT)++[T.ag [T.n e.kind,T.n e.op,T.n e.t,T.n e.v,.s e.name,.sl 6 (e.args.map exT)]])),.t (.sl 6 (n.ensure.map exT))]:List SV)) (by rw[hfl];show _=0+pre.length*8;omega) rfl))
 repeat' (first|fail|refine Go.TL.TR.region ?_|(apply Go.TL.TO.go tabOk 0 true;exact rfl;(first|apply Go.TL.GG.to|apply Go.TL.GG.stop|apply Go.TL.GG.tr0|apply Go.TL.GG.tr|apply Go.TL.GG.ex))|(apply Go.TL.TR.go0 tabOk 0 true;exact rfl;(first|apply Go.TL.GG.to|apply Go.TL.GG.stop|apply Go.TL.GG.tr0|apply Go.TL.GG.tr|apply Go.TL.GG.ex))|(apply Go.TL.TR.go tabOk 0 true;exact rfl;(first|apply Go.TL.GG.to|apply Go.TL.GG.stop|apply Go.TL.GG.tr0|apply Go.TL.GG.tr|apply Go.TL.GG.ex))|(apply Go.TL.TExit.go tabOk 0 true;exact rfl;(first|apply Go.TL.GG.to|apply Go.TL.GG.stop|apply Go.TL.GG.tr0|apply Go.TL.GG.tr|apply Go.TL.GG.ex))|fail)
 refine rgXf 1 (g:=True) [(.sl 3 [] 4,1,0),(.ref 2 3,0,4),(.t (.sl 3 (n.locals.map declT)),0,1),(.sl 3 (n.locals.map declT) 4,1,0),(.ag [.t (.sl 2 (es.map enT)),.ms 8 1 0 N.length],0,4),(.s w,0,4),(u8V c,0,4),(.i c.toNat,0,4),(.i (c.toNat % 3:Nat),0,4),(.i (1+((c.toNat % 3:Nat):Int)),0,4),(.t (T.ag [.s w,.v (.int .i64 (1+((c.toNat % 3:Nat):Int))),.sl 3 []]),0,4),(.t (.sl 3 [T.ag [.s w,.v (.int .i64 (1+((c.toNat % 3:Nat):Int))),.sl 3 []]]),0,4),(.sl 3 ((n.locals.map declT)++[T.ag [.s w,.v (.int .i64 (1+((c.toNat % 3:Nat):Int))),.sl 3 []]]) 4,1,0),(.ref 2 3,0,4),(.any,1,0)] [[.cells [.t (.sl 2 (es.map enT)),.ms 8 1 0 N.length],.cells (FA++([.t (.s n.name),.t (declsT n.ins),.t (declsT n.outs),.t (declsT n.locals),.t (.sl 7 (n.eqs.map equT)),.t (.sl 1 (n.autos.map autoT)),.t (.sl 6 ((n.assume.map exT)++[T.ag [T.n e.kind,T.n e.op,T.n e.t,T.n e.v,.s e.name,.sl 6 (e.args.map exT)]])),.t (.sl 6 (n.ensure.map exT))]:List SV)),.cells ([.t (.s n.name),.t (declsT n.ins),.t (declsT n.outs),.t (declsT n.locals),.t (.sl 7 (n.eqs.map equT)),.t (.sl 1 (n.autos.map autoT)),.t (.sl 6 ((n.assume.map exT)++[T.ag [T.n e.kind,T.n e.op,T.n e.t,T.n e.v,.s e.name,.sl 6 (e.args.map exT)]])),.t (.sl 6 (n.ensure.map exT))]:List SV),.tail ((n.assume.map exT).length+1)],[.cells [.t (.sl 2 (es.map enT)),.ms 8 1 0 N.length],.cells (FA++([.t (.s n.name),.t (declsT n.ins),.t (declsT n.outs),.t (declsT n.locals),.t (.sl 7 (n.eqs.map equT)),.t (.sl 1 (n.autos.map autoT)),.t (.sl 6 ((n.assume.map exT)++[T.ag [T.n e.kind,T.n e.op,T.n e.t,T.n e.v,.s e.name,.sl 6 (e.args.map exT)]])),.t (.sl 6 (n.ensure.map exT))]:List SV)),.cells ([.t (.s n.name),.t (declsT n.ins),.t (declsT n.outs),.t (declsT n.locals),.t (.sl 7 (n.eqs.map equT)),.t (.sl 1 (n.autos.map autoT)),.t (.sl 6 ((n.assume.map exT)++[T.ag [T.n e.kind,T.n e.op,T.n e.t,T.n e.v,.s e.name,.sl 6 (e.args.map exT)]])),.t (.sl 6 (n.ensure.map exT))]:List SV),.tail ((n.assume.map exT).length+1),.tail 0],[.cells [.t (.sl 2 (es.map enT)),.ms 8 1 0 N.length],.cells (FA++([.t (.s n.name),.t (declsT n.ins),.t (declsT n.outs),.t (declsT n.locals),.t (.sl 7 (n.eqs.map equT)),.t (.sl 1 (n.autos.map autoT)),.t (.sl 6 ((n.assume.map exT)++[T.ag [T.n e.kind,T.n e.op,T.n e.t,T.n e.v,.s e.name,.sl 6 (e.args.map exT)]])),.t (.sl 6 (n.ensure.map exT))]:List SV)),.cells ([.t (.s n.name),.t (declsT n.ins),.t (declsT n.outs),.t (declsT n.locals),.t (.sl 7 (n.eqs.map equT)),.t (.sl 1 (n.autos.map autoT)),.t (.sl 6 ((n.assume.map exT)++[T.ag [T.n e.kind,T.n e.op,T.n e.t,T.n e.v,.s e.name,.sl 6 (e.args.map exT)]])),.t (.sl 6 (n.ensure.map exT))]:List SV),.tail ((n.assume.map exT).length+1),.tail ((n.locals.map declT).length)],[.cells [.t (.sl 2 (es.map enT)),.ms 8 1 0 N.length],.cells (FA++([.t (.s n.name),.t (declsT n.ins),.t (declsT n.outs),.t (declsT n.locals),.t (.sl 7 (n.eqs.map equT)),.t (.sl 1 (n.autos.map autoT)),.t (.sl 6 ((n.assume.map exT)++[T.ag [T.n e.kind,T.n e.op,T.n e.t,T.n e.v,.s e.name,.sl 6 (e.args.map exT)]])),.t (.sl 6 (n.ensure.map exT))]:List SV)),.cells ([.t (.s n.name),.t (declsT n.ins),.t (declsT n.outs),.t (declsT n.locals),.t (.sl 7 (n.eqs.map equT)),.t (.sl 1 (n.autos.map autoT)),.t (.sl 6 ((n.assume.map exT)++[T.ag [T.n e.kind,T.n e.op,T.n e.t,T.n e.v,.s e.name,.sl 6 (e.args.map exT)]])),.t (.sl 6 (n.ensure.map exT))]:List SV),.tail ((n.assume.map exT).length+1),.tail ((n.locals.map declT).length+1)],[.cells [.t (.sl 2 (es.map enT)),.ms 8 1 0 N.length],.cells (FA++([.t (.s n.name),.t (declsT n.ins),.t (declsT n.outs),.t (declsT n.locals),.t (.sl 7 (n.eqs.map equT)),.t (.sl 1 (n.autos.map autoT)),.t (.sl 6 ((n.assume.map exT)++[T.ag [T.n e.kind,T.n e.op,T.n e.t,T.n e.v,.s e.name,.sl 6 (e.args.map exT)]])),.t (.sl 6 (n.ensure.map exT))]:List SV)),.cells ([.t (.s n.name),.t (declsT n.ins),.t (declsT n.outs),.sl 3 ((n.locals.map declT)++[T.ag [.s w,.v (.int .i64 (1+((c.toNat % 3:Nat):Int))),.sl 3 []]]) 4,.t (.sl 7 (n.eqs.map equT)),.t (.sl 1 (n.autos.map autoT)),.t (.sl 6 ((n.assume.map exT)++[T.ag [T.n e.kind,T.n e.op,T.n e.t,T.n e.v,.s e.name,.sl 6 (e.args.map exT)]])),.t (.sl 6 (n.ensure.map exT))]:List SV),.tail ((n.assume.map exT).length+1),.tail ((n.locals.map declT).length+1)]] ?_ (fun _=>?_)
 ·repeat' (first|(apply TO.build0 tabOk;iterate 5 exact rfl)|(apply TO.append0 tabOk;(iterate 13 exact rfl);(simp only[List.length_map];omega);exact rfl)|(apply TO.appendB tabOk;(iterate 13 exact rfl);(simp only[List.length_map,List.length_cons,List.length_nil];omega);exact rfl)|exact trivial|exact⟨⟨rfl,rfl⟩,trivial⟩|exact And.intro rfl rfl|refine And.intro (fun env=>?_) ?_|refine And.intro ?_ ?_|(apply TO.callB fw;exact rfl;exact rfl;exact rfl;exact⟨hLe _ rfl,LeB.t _,trivial⟩;exact Rigid.v _)|(apply TO.callB fg;exact rfl;exact rfl;exact rfl;exact⟨hLe _ rfl,LeB.t _,trivial⟩;exact Rigid.v _)|(apply TO.remF (a:=c.toNat) (b:=3);exact rfl;exact rfl;exact rfl;decide)|(apply TO.add;exact rfl;exact rfl;exact rfl;omega;omega)|(apply TO.buildL tabOk;(iterate 7 exact rfl);refine(?_:Le _ (.t (T.ag [.s w,.v (.int .i64 (1+((c.toNat % 3:Nat):Int))),.sl 3 []])));exact Le.tree rfl (TLe.ags ⟨TLe.refl _,TLe.refl _,TLe.nil 3,trivial⟩))|refine wkb ?_|refine wk ?_|fail)
  done
 repeat' (first|(apply TO.forget 2 3;exact rfl;exact rfl;exact rfl)|(apply TO.callB fw;exact rfl;exact rfl;exact rfl;exact⟨hLe _ rfl,LeB.t _,trivial⟩;exact Rigid.v _)|(apply TO.callB fg;exact rfl;exact rfl;exact rfl;exact⟨hLe _ rfl,LeB.t _,trivial⟩;exact Rigid.v _)|(apply TO.buildL tabOk;(iterate 7 exact rfl);refine(?_:Le _ (.t (T.ag [.s [97],.v (.int .i64 1),.sl 3 []])));exact Le.tree rfl (TLe.ags ⟨TLe.refl _,TLe.refl _,TLe.nil 3,trivial⟩))|(apply TO.buildL tabOk;(iterate 7 exact rfl);refine(?_:Le _ (.t (T.ag [.s g,.sl 3 [],.sl 3 [.ag [.s [97],.v (.int .i64 1),.sl 3 []]],.sl 3 [],.sl 7 [],.sl 1 [],.sl 6 [],.sl 6 []])));exact Le.tree rfl (TLe.ags ⟨TLe.refl _,TLe.nil 3,TLe.refl _,TLe.nil 3,TLe.nil 7,TLe.nil 1,TLe.nil 6,TLe.nil 6,trivial⟩))|(apply TO.indexAddr_ms tabOk;(iterate 7 exact rfl);omega;omega)|(apply TO.allocC tabOk;(iterate 6 exact rfl);exact Nat.le_of_ble_eq_true rfl)|refine Go.TL.TR.region ?_|(apply Go.TL.TO.go tabOk 0 true;exact rfl;(first|apply Go.TL.GG.to|apply Go.TL.GG.stop|apply Go.TL.GG.tr0|apply Go.TL.GG.tr|apply Go.TL.GG.ex))|(apply Go.TL.TR.go0 tabOk 0 true;exact rfl;(first|apply Go.TL.GG.to|apply Go.TL.GG.stop|apply Go.TL.GG.tr0|apply Go.TL.GG.tr|apply Go.TL.GG.ex))|(apply Go.TL.TR.go tabOk 0 true;exact rfl;(first|apply Go.TL.GG.to|apply Go.TL.GG.stop|apply Go.TL.GG.tr0|apply Go.TL.GG.tr|apply Go.TL.GG.ex))|(apply Go.TL.TExit.go tabOk 0 true;exact rfl;(first|apply Go.TL.GG.to|apply Go.TL.GG.stop|apply Go.TL.GG.tr0|apply Go.TL.GG.tr|apply Go.TL.GG.ex))|fail)
 apply TO.store tabOk
 iterate 6 exact rfl
 exact Nat.le_of_ble_eq_true rfl
 exact rfl
 exact(show 0+(pre.length:Int).toNat*8+8≤(FA++([.t (.s n.name),.t (declsT n.ins),.t (declsT n.outs),.t (declsT n.locals),.t (.sl 7 (n.eqs.map equT)),.t (.sl 1 (n.autos.map autoT)),.t (.sl 6 ((n.assume.map exT)++[T.ag [T.n e.kind,T.n e.op,T.n e.t,T.n e.v,.s e.name,.sl 6 (e.args.map exT)]])),.t (.sl 6 (n.ensure.map exT))]:List SV)).length by rw[List.length_append,hfl];show 0+pre.length*8+8≤pre.length*8+8;omega)
 exact(congrArg (fun z=>([Blk.cells [.t (.sl 2 (es.map enT)),.ms 8 1 0 N.length],Blk.cells z,Blk.cells ([.t (.s n.name),.t (declsT n.ins),.t (declsT n.outs),.t (.sl 3 ((n.locals.map declT)++[T.ag [.s w,.v (.int .i64 (1+((c.toNat % 3:Nat):Int))),.sl 3 []]])),.t (.sl 7 (n.eqs.map equT)),.t (.sl 1 (n.autos.map autoT)),.t (.sl 6 ((n.assume.map exT)++[T.ag [T.n e.kind,T.n e.op,T.n e.t,T.n e.v,.s e.name,.sl 6 (e.args.map exT)]])),.t (.sl 6 (n.ensure.map exT))]:List SV),.tail ((n.assume.map exT).length+1),.tail ((n.locals.map declT).length+1)]:Heap)) (splice_end (A:=FA) (B:=([.t (.s n.name),.t (declsT n.ins),.t (declsT n.outs),.t (declsT n.locals),.t (.sl 7 (n.eqs.map equT)),.t (.sl 1 (n.autos.map autoT)),.t (.sl 6 ((n.assume.map exT)++[T.ag [T.n e.kind,T.n e.op,T.n e.t,T.n e.v,.s e.name,.sl 6 (e.args.map exT)]])),.t (.sl 6 (n.ensure.map exT))]:List SV)) (C:=([.t (.s n.name),.t (declsT n.ins),.t (declsT n.outs),.t (.sl 3 ((n.locals.map declT)++[T.ag [.s w,.v (.int .i64 (1+((c.toNat % 3:Nat):Int))),.sl 3 []]])),.t (.sl 7 (n.eqs.map equT)),.t (.sl 1 (n.autos.map autoT)),.t (.sl 6 ((n.assume.map exT)++[T.ag [T.n e.kind,T.n e.op,T.n e.t,T.n e.v,.s e.name,.sl 6 (e.args.map exT)]])),.t (.sl 6 (n.ensure.map exT))]:List SV)) (by rw[hfl];show _=0+pre.length*8;omega) rfl))
 repeat' (first|(apply TO.append_msD (es:=N2) tabOk;(iterate 10 exact rfl);exact hfe2.symm;exact hml2;exact hsz2;exact rfl;exact rfl;exact rfl;(simp only[List.length_cons,List.length_nil];omega);exact(show _=([Blk.cells [.t (.sl 2 (es.map enT)),.ms 8 1 0 N.length],.dead,.cells ([.t (.s n.name),.t (declsT n.ins),.t (declsT n.outs),.t (.sl 3 ((n.locals.map declT)++[T.ag [.s w,.v (.int .i64 (1+((c.toNat % 3:Nat):Int))),.sl 3 []]])),.t (.sl 7 (n.eqs.map equT)),.t (.sl 1 (n.autos.map autoT)),.t (.sl 6 ((n.assume.map exT)++[T.ag [T.n e.kind,T.n e.op,T.n e.t,T.n e.v,.s e.name,.sl 6 (e.args.map exT)]])),.t (.sl 6 (n.ensure.map exT))]:List SV),.tail ((n.assume.map exT).length+1),.tail ((n.locals.map declT).length+1)]:Heap) by rfl))|refine Go.TL.TR.region ?_|(apply Go.TL.TO.go tabOk 0 true;exact rfl;(first|apply Go.TL.GG.to|apply Go.TL.GG.stop|apply Go.TL.GG.tr0|apply Go.TL.GG.tr|apply Go.TL.GG.ex))|(apply Go.TL.TR.go0 tabOk 0 true;exact rfl;(first|apply Go.TL.GG.to|apply Go.TL.GG.stop|apply Go.TL.GG.tr0|apply Go.TL.GG.tr|apply Go.TL.GG.ex))|(apply Go.TL.TR.go tabOk 0 true;exact rfl;(first|apply Go.TL.GG.to|apply Go.TL.GG.stop|apply Go.TL.GG.tr0|apply Go.TL.GG.tr|apply Go.TL.GG.ex))|(apply Go.TL.TExit.go tabOk 0 true;exact rfl;(first|apply Go.TL.GG.to|apply Go.TL.GG.stop|apply Go.TL.GG.tr0|apply Go.TL.GG.tr|apply Go.TL.GG.ex))|fail)
 obtain⟨r1,r2⟩:=r
 simp only at of1 of2 hsa
 repeat' (first|refine wkb ?_|refine wv of1 ?_|refine wv of2 ?_|refine wv hA ?_|refine wv hsa ?_|exact wkc|intro hc|refine wk2 ?_ ?_|refine wk ?_|fail)
 all_goals first
  | exact wkr
  | (exfalso;omega)
end Go.Proofs.YtddaclniamlmbaaGreatDoor
