import Derived.Test.YtpnnpgbaiobbjaaGreatDoorPz
import Derived.DeepKeys5
import Derived.Lib.ItoaNum
import Derived.Test.YtpnnpgbaiobbjaaGreatDoorPk15
import Derived.Test.YtpnnpgbaiobbjaaGreatDoorPk16
import Derived.Test.YtpnnpgbaiobbjaaGreatDoorPk17
set_option linter.unusedSimpArgs false
set_option linter.unusedVariables false
namespace Go.TL
open Go
section rules
variable {P:Program}{n:Nat}{env:Env}{H:Heap}{K:TK}{all:Array Oper}{rest:List Oper}{tab:Tab}{q:Bool}
variable {d:Nat}{ty:TypeId}{pos:String}{aft:Array Edge}
theorem TO.zj9(hT:zau P tab){t xt:TypeId}{i:TyI}{x:Operand}{s:SV}(hd:Nat.ble (d+1) n=true)(hx:env.val x=some (.ifc t s))(ht:tab.get t=some i)(ha:i.k.agg=true)
  (k:TO q P n all rest ((d,.tup [s,.b true])::env) H K):TO q P n all (⟨some d,.typeAssert x xt t true,ty,pos,aft,none⟩::rest) env H K:=
 TO.op hd (fun m ac h1 h2 h3=>by
  have hv:=h3.val hx
  generalize hq:ac.eval x=u at hv
  cases hv with
  | ifc _ _ y hy=>
    obtain⟨dd,ti,z,g1,g2,g3,g4,g5,g6,g7,g8,g9⟩:=(hT t i ht).ex
    refine⟨.tuple #[y,.bool true],fun w' hw'=>?_,?_⟩
    ·cases hk:i.k <;> rw[hk]at ha g3 <;> simp[TK'.agg]at ha <;> cases dd <;> simp[TK'.fits]at g3 <;> simp[execOp,hq,Instr.typeAssert,run_underlying g1]
    ·refine .tup _ _ rfl fun j c z hc hz=>?_
     match j with
     | 0=>simp at hc hz;subst hc hz;exact hy
     | 1=>simp at hc hz;subst hc hz;exact .t _ _ (.v _)
     | j+2=>simp at hc) k
theorem TO.ziw(hT:zau P tab){t xt:TypeId}{i:TyI}{x:Operand}(hd:Nat.ble (d+1) n=true)(hx:env.val x=some (.t (.v .nilIface)))(ht:tab.get t=some i)(ha:i.k.agg=true)
  (k:TO q P n all rest ((d,.tup [.t (.ag i.zero),.b false])::env) H K):TO q P n all (⟨some d,.typeAssert x xt t true,ty,pos,aft,none⟩::rest) env H K:=
 TO.op hd (fun m ac h1 h2 h3=>by
  have hv:=h3.val hx
  generalize hq:ac.eval x=u at hv
  have hu:=hv.v_eq
  subst hu
  obtain⟨dd,ti,z,g1,g2,g3,g4,g5,g6,g7,g8,g9⟩:=(hT t i ht).ex
  obtain⟨cs,rfl⟩:=g8 ha
  obtain⟨z1,z2,z3⟩:=zbL (A:=m.A) (w:=m.w) _ _ g7
  refine⟨.tuple #[.agg cs,.bool false],fun w' hw'=>?_,?_⟩
  ·have hz:(zeroValue t).run P w'= .ok (.agg cs) w':=by simp[zeroValue,typeInfo,g2,g6]
   cases hk:i.k <;> rw[hk]at ha g3 <;> simp[TK'.agg]at ha <;> cases dd <;> simp[TK'.fits]at g3 <;> simp[execOp,hq,Instr.typeAssert,run_underlying g1,hz]
  ·refine .tup _ _ rfl fun j c z hc hz=>?_
   match j with
   | 0=>
     simp at hc hz;subst hc hz
     refine .t _ _ (.ag _ _ (by simpa [Value.cells]using z1.symm) (fun i y hy=>z2 i y (by simpa [Value.cells]using hy)) fun i c y hc hy=>z3 i c y hc (by simpa [Value.cells]using hy))
   | 1=>simp at hc hz;subst hc hz;exact .t _ _ (.v _)
   | j+2=>simp at hc) k
end rules
end Go.TL
namespace Go.Proofs.YtpnnpgbaiobbjaaGreatDoor
open Go Go.TL
attribute [local irreducible] TR TO Then zam RetK Sound zab Kf GG zaX
theorem ziC(n q c:Int)(a b d:SV)(Hr:Heap)(hb:zac (Hr.length+2) Hr=true):
  zcO Tryz.prog 70 [.ref 0 0,.ref 1 0] (.cells [a,b]:: .cells [d]::Hr) (some (zie n q c)) (fun H3=>H3= .cells [.i n,.i q]:: .cells [.i c]::Hr):=by
 refine zcO.of (tab:=tab) Tryz.func70 (by kernel_rfl) rfl rfl rfl rfl ?_
 repeat' (first|refine wu ?_|exact wkc|intro hc|refine wk2 ?_ ?_|(apply TO.zj9 zah;(iterate 4 exact rfl))|fail)
 refine Then.normal ?_
 repeat' (first|refine wkt ?_|fail)
 refine TR.zjF (envF:=?envF) (HF:=.cells [.i n,.i q]:: .cells [.i c]::Hr) [(.cp [T.i n,T.i q,T.i c] 0,false),(.t (.ag [T.i n,T.i q]),false),(.cp [T.i n,T.i q,T.i c] 2,false),(.i c,false),(.any,true),(.any,true)] [.cells [a,b]:: .cells [d]::Hr,.cells [.i n,.i q]:: .cells [d]::Hr,.cells [.i n,.i q]:: .cells [.i c]::Hr] hmix ?hB ?h0 ?hp ?hF ?hE ?hK
 case hB=>(dsimp only[List.map];decide +kernel)
 case h0=>exact rfl
 case hF=>exact rfl
 case hE=>exact rfl
 case hp=>repeat' (first|refine wu ?_|exact trivial|exact qaf rfl rfl|refine qaf (fun H env=>?_) ?_|refine qaf (fun env=>?_) ?_|fail)
 repeat' (first|refine wu ?_|exact wkc|intro hc|refine wk2 ?_ ?_|fail)
 have ht:(Blk.cells [.i n,.i q]::Blk.cells [.i c]::Hr).take (Blk.cells [a,b]::Blk.cells [d]::Hr).length=Blk.cells [.i n,.i q]::Blk.cells [.i c]::Hr:=by simp
 refine⟨qae _,?_,ht⟩
 show zac _ (List.take _ (Blk.cells [.i n,.i q]::Blk.cells [.i c]::Hr))=true
 rw[ht]
 exact hb
theorem znW(H:Heap)(hb:zac H.length H=true):
  zcO Tryz.prog 70 [.ref 0 0,.ref 1 0] H none (fun H3=>H3=H):=by
 refine zcO.of (tab:=tab) Tryz.func70 (by kernel_rfl) rfl rfl rfl rfl ?_
 repeat' (first|refine wu ?_|exact wkc|intro hc|refine wk2 ?_ ?_|(apply TO.ziw zah;(iterate 4 exact rfl))|fail)
 refine Then.normal ?_
 repeat' (first|refine wu ?_|exact wkc|intro hc|refine wk2 ?_ ?_|fail)
 exact⟨qae _,by rw[qaT (qae _)];exact hb,qaT (qae _)⟩
theorem we3{G Q1 Q2:Prop}{f:FuncId}{cargs:List SV}{v pv:SV}{c:Int}{Hc H1:Heap}(hs:Sound Tryz.prog f cargs Hc (Err c v pv H1))(k1:Q1)(k2:Q2)(h:Sound Tryz.prog f cargs Hc (Err c v pv H1)->Hold Q1->Hold Q2->G:=by
  intro hs k1 k2
  (apply TO.zlJ [2] hs;(iterate 3 exact rfl);exact zqb;exact rfl;exact Hands.one rfl rfl;(iterate 4 exact rfl);exact k1.p;exact k2.p)):G:=h hs ⟨k1⟩ ⟨k2⟩
structure zmO (p:Prog) (w:Nat):Prop where
 es:p.enums.length≤w
 tg:∀u∈p.enums,u.tags.length≤w
 ns:p.nodes.length≤w
 nd:∀n∈p.nodes,(nodT n).w≤w
theorem zk6{p:Prog}{w:Nat}(hw:(T.ag (zay p)).w≤w):zmO p w:=by
 have l1:(T.sl 2 (p.enums.map enT)).w+(zax p.nodes).w≤(T.ag (zay p)).w:=by rw[w_ag];simp only[zay,qak,qay,qat,qaK];omega
 have b1:=zai enT 2 p.enums
 have b2:=zai nodT 8 p.nodes
 have h8:(zax p.nodes).w=(T.sl 8 (p.nodes.map nodT)).w:=rfl
 refine⟨by omega,fun u hu=>?_,by omega,fun n hn=>?_⟩
 ·have:=zaw (f:=enT) (sz:=2) hu
  rw[enT,w_ag]at this;simp only[qak,qay,qat,qaK]at this
  have:=zai T.s 1 u.tags
  omega
 ·have:=zaw (f:=nodT) (sz:=8) hn
  omega
theorem zgv(p:Prog)(hw:zmO p 1000000000):Pure Tryz.prog 29 [.t (.ag (zay p))] (.tup [.t (.ag [T.i (zbs p).1.1,T.i (zbs p).1.2]),.i (zbs p).2]):=by
 refine Sound.zpJ zah Tryz.func29 (by kernel_rfl) rfl rfl (gf:=70) (cv:=[.ref 0 0,.ref 1 0]) ?_
 unfold zay
 refine TD.seq ?_
 repeat' (first|refine wu ?_|fail)
 show TD _ _ (.seq _ _) _ _ _ _ _ _
 refine TD.defer (tz:=0) rfl rfl ?_
 have m1:(p.enums.map enT).length=p.enums.length:=qaa _
 have m2:(p.nodes.map nodT).length=p.nodes.length:=qaa _
 have b1:=hw.es
 have b2:=hw.ns
 have hen:∀(n q:Int) u,u∈p.enums->LS 72 [.t (.ag [.s u.name,.sl 1 (u.tags.map T.s)])] p.enums n q (zgB u):=fun n q u hu=>zl1 p.enums n q u (hw.tg u hu)
 have hno:∀(a b i:Int) u,u∈p.nodes->Sound Tryz.prog 73 [.ref 0 0,.i i,.t (.ag (nodC u))] [zca p.enums a b] (Err (zb3 p.enums u).2 (.tup []) (zie i (zb3 p.enums u).1 (zb3 p.enums u).2) [zca p.enums i (-1)]):=fun a b i u hu=>zms p.enums a b i u (hw.nd u hu)
 have hz:zbs p=zbs p:=rfl
 conv at hz=>rhs;unfold zbs limE
 generalize zbs p=z at hz⊢
 refine wk ?_
 repeat' (first|refine wkt ?_|refine wka ?_|refine wk ?_|exact wkc|intro hc|refine wk2 ?_ ?_|(apply TO.zoV [2] (zpF p.enums (-1) (-1) 3);(iterate 3 exact rfl);exact⟨Le.refl _,Le.refl _,Le.refl _,trivial⟩;exact rfl;exact Hands.one rfl rfl;exact rfl;exact rfl)|refine we3 (zpE p.enums (-1) (-1) 3 (by decide)) ?_ ?_|fail)
 all_goals first
  | (have hzz:z=((-1,-1),3):=by rw[hz];clear hen hno;grind
     subst hzz
     exact⟨_,ziC _ _ _ _ _ _ _ rfl,fun H3 h=>by subst h;exact wkr⟩)
  | skip
 rw[if_neg (by clear hen hno hz;simp;omega)]at hz
 refine TR.zak p.enums.length (fun k=>zaf zgB (p.enums.take k)=0) (fun k=>[(1,.cp [.sl 2 (p.enums.map enT),zax p.nodes] 0),(2,.ref 0 0),(3,.ref 1 0),(4,.ref 2 0),(28,.t (.sl 2 (p.enums.map enT))),(29,.i (p.enums.map enT).length),(30,.i k)])
  (fun k=>[.cells [.i 0,.i 0],.cells [.i 0],zca p.enums (-1) (-1)]) rfl (fun k hlt ha=>?_) (fun ha=>?_)
 ·have hx:(p.enums.map enT)[k]?=some (.ag [.s p.enums[k].name,.sl 1 (p.enums[k].tags.map T.s)]):=zar enT hlt
  have g1:=zaC (f:=zgB) hlt ha
  have g2:=zap (f:=zgB) hlt ha
  have hs:=hen (-1) (-1) _ (qad hlt)
  generalize p.enums[k]=u at*
  clear hen hno
  repeat' (first|refine wkt ?_|refine wka ?_|refine wk ?_|exact wkc|intro hc|refine wk2 ?_ ?_|refine we3 hs ?_ ?_|fail)
  ·exact zab.zat hlt (g2 hc)
  ·rw[if_pos (by rw[g1 hc];exact hc),g1 hc]at hz
   exact zwdl
 have e1:=zaF ha
 rw[if_neg (by simp[e1])]at hz
 clear hen
 refine wk ?_
 repeat' (first|refine wu ?_|exact wkc|intro hc|refine wk2 ?_ ?_|fail)
 refine TR.zak p.nodes.length (fun k=>zaf (fun n=>(zb3 p.enums n).2) (p.nodes.take k)=0) (fun k=>[(2,.ref 0 0),(3,.ref 1 0),(4,.ref 2 0),(39,.t (zax p.nodes)),(40,.i (p.nodes.map nodT).length),(41,.i k)])
  (fun k=>[.cells [.i 0,.i 0],.cells [.i 0],zca p.enums ((k:Int)-1) (-1)]) rfl (fun k hlt ha=>?_) (fun ha=>?_)
 ·have hx:=zdQ hlt
  have g1:=zaC (f:=fun n=>(zb3 p.enums n).2) hlt ha
  have g2:=zap (f:=fun n=>(zb3 p.enums n).2) hlt ha
  have g3:=zhl (f:=fun n=>(zb3 p.enums n).2) hlt ha
  have hs:=hno ((k:Int)-1) (-1) k _ (qad hlt)
  have hat:p.nodes[k]?=some p.nodes[k]:=qac hlt
  generalize p.nodes[k]=u at*
  clear hno
  unfold nodC at hx hs
  repeat' (first|refine wkt ?_|refine wka ?_|refine wk ?_|exact wkc|intro hc|refine wk2 ?_ ?_|refine we3 hs ?_ ?_|fail)
  ·refine zab.zat hlt (g2 hc) ?_ (by rw[show((k+1:Nat):Int)-1=k from by omega];rfl)
   repeat' (first|exact trivial|refine qaf rfl ?_|fail)
  ·rw[if_neg (by rw[g1 hc];exact hc),g3 hc,g1 hc]at hz
   simp only[qck,hat,qa3,qb9]at hz
   exact zwdl
 have e2:=zaF ha
 rw[if_pos e2]at hz
 subst hz
 refine wk ?_
 repeat' (first|refine wu ?_|exact wkc|intro hc|refine wk2 ?_ ?_|fail)
 exact⟨_,znW _ rfl,fun H3 h=>by subst h;exact wkr⟩
theorem zlk(p:Prog)(hw:(T.ag (zay p)).w≤1000000000):Pure Tryz.prog 29 [.t (.ag (zay p))] (.tup [.t (.ag [T.i (zbs p).1.1,T.i (zbs p).1.2]),.i (zbs p).2]):=zgv p (zk6 hw)
theorem kStr:Maps.Keyed Tryz.prog 9:=Maps.string_keyed Tryz.underlying9
set_option maxRecDepth 100000 in
theorem kKey:Maps.Keyed Tryz.prog 165:=Maps.Keyed.of_law (deep_law_laid (m:=3) (by kernel_rfl) (by decide) (qah (by kernel_rfl)) (by kernel_rfl) (by kernel_rfl))
theorem keyS{s:Str}(h:s.length≤1000000000):∃l,keyOf Tryz.prog 9 (str s)=some l:=by
 refine⟨.string s,?_⟩
 have:(⟨s.toArray⟩:ByteArray).size≤maxLen:=by
  show s.toArray.size≤maxLen
  simp[maxLen];omega
 simp[keyOf,Tryz.underlying9,mapKey,this]
abbrev keyV (k:Int)(s:Str):Value:=.agg #[.int .i64 k,str s]
theorem zuy:Tryz.prog.keyType 165=true:=by kernel_rfl
theorem zsb:Tryz.prog.cellsOf 165=2:=by kernel_rfl
theorem ztP:Tryz.prog.cellsOf 3=1:=by kernel_rfl
theorem ztQ:Tryz.prog.cellsOf 9=1:=by kernel_rfl
theorem zun:∃N,Tryz.prog.types.size=N+1:=⟨Tryz.prog.types.size-1,by kernel_rfl⟩
theorem zrw(N:Nat){k:Int}{s:Str}(hw:(Lit.int .i64 k).wf=true)(hs:(⟨s.toArray⟩:ByteArray).size≤maxLen):
  (Tryz.prog.keyLits (N+1+1) 165 [.int .i64 k,str s])=some [.int .i64 k,.string s]:=by
 have e1:∀c,Tryz.prog.keyLits (N+1) 3 [c]=(match c with| .int q' n=>if q'= .i64/\(Lit.int .i64 n).wf=true then some [.int .i64 n] else none|_=>none):=fun c=>by
  unfold Program.keyLits
  simp only[Tryz.underlying3]
  cases c <;> rfl
 have e2:Tryz.prog.keyLits (N+1) 9 [str s]=some [.string s]:=by
  unfold Program.keyLits
  simp only[Tryz.underlying9]
  rw[if_pos hs]
 unfold Program.keyLits
 simp only[Tryz.underlying165,zsb]
 simp only[qap,qaC,qbR,List.mapM_nil,ztP,ztQ,qbc,List.take,List.drop,e1,e2,hw]
 simp
theorem keyK{k:Int}{s:Str}(hk:0≤k/\k≤2)(h:s.length≤1000000000):∃l,keyOf Tryz.prog 165 (keyV k s)=some l:=by
 have hs:(⟨s.toArray⟩:ByteArray).size≤maxLen:=by
  show s.toArray.size≤maxLen
  simp[maxLen];omega
 have hw:(Lit.int .i64 k).wf=true:=by
  simp only[Lit.wf,qav,decide_eq_true_eq]
  exact⟨by show(-9223372036854775808:Int)≤k;omega,by show k≤(9223372036854775807:Int);omega⟩
 have h5:(Value.agg #[.int .i64 k,str s]).formed Tryz.prog 165=true:=by
  simp only[Value.formed,Tryz.underlying165,zsb];rfl
 obtain⟨N,hN⟩:=zun
 refine⟨.string (keyBytes [.int .i64 k,.string s]),?_⟩
 rw[keyOf,Tryz.underlying165]
 simp only[zuy,h5,hN,Value.cells,Bool.and_self,if_true,zrw N hw hs,qa3]
def ins(l:List Str)(s:Str):List Str:=if s∈l then l else l++[s]
abbrev setB (l:List Str):Blk:=.map 9 4 (l.map fun s=>(str s,.v (.bool true)))
abbrev zbJ (l:List (Int×Str×Int)):Blk:=.map 165 3 (l.map fun e=>(keyV e.1 e.2.1,.v (.int .i64 e.2.2)))
structure zaE (l:List Str):Prop where
 nodup:l.Nodup
 short:∀s∈l,s.length≤1000000000
structure zaN (l:List (Int×Str×Int)):Prop where
 nodup:(l.map fun e=>(e.1,e.2.1)).Nodup
 short:∀e∈l,(0≤e.1/\e.1≤2)/\e.2.1.length≤1000000000
def zaJ(l:List (Int×Str×Int))(k:Int)(s:Str):Option Int:=(l.find? fun e=>decide (e.1=k/\e.2.1=s)).map fun e=>e.2.2
theorem str_inj{a b:Str}(h:str a=str b):a=b:=by
 simp only[str,Value.string.injEq,ByteArray.mk.injEq]at h
 simpa using h
theorem znl{k j:Int}{a b:Str}(h:keyV k a=keyV j b):k=j/\a=b:=by
 simp only[keyV,Value.agg.injEq,Array.mk.injEq,qa7,Value.int.injEq,true_and,and_true]at h
 exact⟨h.1,str_inj h.2⟩
theorem zaE.nil:zaE []:=⟨qbA,by simp⟩
theorem zaE.ins{l:List Str}{s:Str}(h:zaE l)(hs:s.length≤1000000000):zaE (ins l s):=by
 unfold Go.Proofs.YtpnnpgbaiobbjaaGreatDoor.ins
 split
 ·exact h
 ·rename_i hn
  refine⟨qbY.2 ⟨h.nodup,by simp,fun a ha b hb e=>?_⟩,fun x hx=>?_⟩
  ·simp at hb;subst hb;subst e;exact hn ha
  ·simp at hx;rcases hx with hx|rfl
   ·exact h.short x hx
   ·exact hs
theorem zaE.keys{l:List Str}(h:zaE l):zj3 Tryz.prog 9 (l.map fun s=>(str s,.v (.bool true))):=by
 intro j e he
 rw[qaq]at he
 cases hq:l[j]? with
 | none=>rw[hq]at he;cases he
 | some s=>rw[hq]at he;cases he;exact keyS (h.short s (qas hq))
theorem zaN.nil:zaN []:=⟨qbA,by simp⟩
theorem zaN.keys{l:List (Int×Str×Int)}(h:zaN l):zj3 Tryz.prog 165 (l.map fun e=>(keyV e.1 e.2.1,.v (.int .i64 e.2.2))):=by
 intro j e he
 rw[qaq]at he
 cases hq:l[j]? with
 | none=>rw[hq]at he;cases he
 | some s=>rw[hq]at he;cases he;have:=h.short s (qas hq);exact keyK this.1 this.2
theorem zaN.add{l:List (Int×Str×Int)}{k v:Int}{s:Str}(h:zaN l)(hk:0≤k/\k≤2)(hs:s.length≤1000000000)(hn:zaJ l k s=none):zaN (l++[(k,s,v)]):=by
 refine⟨?_,fun e he=>?_⟩
 ·rw[qan]
  refine qbY.2 ⟨h.nodup,by simp,fun a ha b hb e=>?_⟩
  simp at hb;subst hb;subst e
  obtain⟨e,he,heq⟩:=qbf.1 ha
  simp only[zaJ,Option.map_eq_none_iff,List.find?_eq_none,decide_eq_true_eq]at hn
  simp only[qcc]at heq
  exact hn e he heq
 ·simp at he;rcases he with he|rfl
  ·exact h.short e he
  ·exact⟨hk,hs⟩
theorem zp2{l:List Str}(h:zaE l)(s:Str):zoC (l.map fun s=>(str s,T.v (.bool true))) (str s) (if s∈l then some (.v (.bool true)) else none):=by
 by_cases hm:s∈l
 ·rw[if_pos hm]
  obtain⟨j,hj⟩:=qa4 hm
  refine⟨j,by simp[hj],fun j' t' h'=>?_⟩
  rw[qaq]at h'
  cases hq:l[j']? with
  | none=>rw[hq]at h';cases h'
  | some x=>
    rw[hq]at h'
    simp only[qa3,qaB,qcc]at h'
    have:=str_inj h'.1
    subst this
    exact(List.getElem?_inj (qab.1 hq).1 h.nodup).1 (hq.trans hj.symm)
 ·rw[if_neg hm]
  intro j e he e2
  rw[qaq]at he
  cases hq:l[j]? with
  | none=>rw[hq]at he;cases he
  | some x=>
    rw[hq]at he;cases he
    have:=str_inj e2
    subst this
    exact hm (qas hq)
theorem zts{l:List Str}(h:zaE l)(s:Str):zr4 (l.map fun s=>(str s,T.v (.bool true))) (str s) (.v (.bool true)) ((ins l s).map fun s=>(str s,T.v (.bool true))):=by
 have hg:=zp2 h s
 unfold ins
 by_cases hm:s∈l
 ·rw[if_pos hm]at hg⊢
  obtain⟨j,hj,hu⟩:=hg
  refine .inl ⟨j,_,hj,hu,?_⟩
  have hlt:=(qab.1 hj)
  conv=>rhs;rw[<-hlt.2]
  rw[qb2]
 ·rw[if_neg hm]at hg⊢
  exact .inr ⟨hg,by simp⟩
theorem znz{l:List (Int×Str×Int)}(h:zaN l)(k:Int)(s:Str):zoC (l.map fun e=>(keyV e.1 e.2.1,T.v (.int .i64 e.2.2))) (keyV k s) ((zaJ l k s).map fun v=>.v (.int .i64 v)):=by
 unfold zaJ
 cases hf:l.find? (fun e=>decide (e.1=k/\e.2.1=s)) with
 | none=>
   rw[List.find?_eq_none]at hf
   intro j e he e2
   rw[qaq]at he
   cases hq:l[j]? with
   | none=>rw[hq]at he;cases he
   | some x=>
     rw[hq]at he;cases he
     exact hf x (qas hq) (by simpa using znl e2)
 | some e=>
   have hm:=List.mem_of_find?_eq_some hf
   have hp:=List.find?_some hf
   simp only[decide_eq_true_eq]at hp
   obtain⟨j,hj⟩:=qa4 hm
   refine⟨j,by simp[hj,hp.1,hp.2],fun j' t' h'=>?_⟩
   rw[qaq]at h'
   cases hq:l[j']? with
   | none=>rw[hq]at h';cases h'
   | some x=>
     rw[hq]at h'
     simp only[qa3,qaB,qcc]at h'
     have h1:=znl h'.1
     have e1:(l.map fun e=>(e.1,e.2.1))[j']?=some (k,s):=by simp[hq,h1.1,h1.2]
     have e2:(l.map fun e=>(e.1,e.2.1))[j]?=some (k,s):=by simp[hj,hp.1,hp.2]
     exact(List.getElem?_inj (qab.1 e1).1 h.nodup).1 (e1.trans e2.symm)
theorem zps{k:Int}{s:Str}{m:M}{v:Value}(h:SRel m (.t (.ag [.i k,.s s])) v):v=keyV k s:=by
 cases h with
 | t _ _ h=>
   cases h with
   | ag _ arr hs h1 h2=>
     obtain⟨l⟩:=arr
     match l,hs with
     | [a,b],_=>
       have ha:=h2 0 _ a rfl rfl
       have hb:=h2 1 _ b rfl rfl
       cases ha;cases hb
       rfl
section
variable {n:Nat}{env:Env}{K:TK}{all:Array Oper}{rest:List Oper}{d id:Nat}{ty:TypeId}{pos:String}{aft:Array Edge}{H:Heap}{x y w:Operand}{q:Bool}
theorem TO.zgu{l:List Str}{s:Str}(hd:Nat.ble (d+1) n=true)(hx:env.val x=some (.mp id))(hH:H[id]?=some (setB l))(hy:env.val y=some (.s s))(hl:zaE l)(hs:s.length≤1000000000)
  (k1:s∈l->TO q Tryz.prog n all rest ((d,.b true)::env) H K)(k2:s ∉ l->TO q Tryz.prog n all rest ((d,.b false)::env) H K):
  TO q Tryz.prog n all (⟨some d,.lookup 88 x y false,ty,pos,aft,none⟩::rest) env H K:=by
 refine TO.lookup zah hd rfl rfl rfl rfl rfl kStr hx hH hl.keys hy (kx:=str s) (fun m v h=>h.v_eq) (keyS hs) (zp2 hl s) ?_
 by_cases hm:s∈l
 ·rw[if_pos hm];exact k1 hm
 ·rw[if_neg hm];exact k2 hm
theorem TO.ziR{s:Str}(hd:Nat.ble (d+1) n=true)(hx:env.val x=some (.t (.v (.map none))))(hy:env.val y=some (.s s))(hs:s.length≤1000000000)(k:TO q Tryz.prog n all rest ((d,.b false)::env) H K):
  TO q Tryz.prog n all (⟨some d,.lookup 88 x y false,ty,pos,aft,none⟩::rest) env H K:=
 TO.lookup_nil zah hd rfl rfl rfl rfl rfl kStr hx hy (kx:=str s) (fun m v h=>h.v_eq) (keyS hs) k
theorem TO.znA{l:List Str}{s:Str}{H':Heap}(hx:env.val x=some (.mp id))(hH:H[id]?=some (setB l))(hy:env.val y=some (.s s))(hw:env.val w=some (.b true))(hl:zaE l)(hs:s.length≤1000000000)
  (hH':setS H id (setB (ins l s))=some H')(k:TO false Tryz.prog n all rest env H' K):
  TO false Tryz.prog n all (⟨none,.mapUpdate 88 x y w,ty,pos,aft,none⟩::rest) env H K:=
 TO.mapUpdate zah rfl rfl kStr hx hH hl.keys hy (kx:=str s) (fun m v h=>h.v_eq) (keyS hs) hw rfl (zts hl s) (zjL hH').symm k
theorem TO.zjK{l:List (Int×Str×Int)}{s:Str}{k:Int}(hd:Nat.ble (d+1) n=true)(hx:env.val x=some (.mp id))(hH:H[id]?=some (zbJ l))(hy:env.val y=some (.t (.ag [.i k,.s s])))(hl:zaN l)(hk:0≤k/\k≤2)(hs:s.length≤1000000000)
  (k1:∀v,zaJ l k s=some v->TO q Tryz.prog n all rest ((d,.tup [.i v,.b true])::env) H K)(k2:zaJ l k s=none->TO q Tryz.prog n all rest ((d,.tup [.i 0,.b false])::env) H K):
  TO q Tryz.prog n all (⟨some d,.lookup 160 x y true,ty,pos,aft,none⟩::rest) env H K:=by
 refine TO.lookup zah hd rfl rfl rfl rfl rfl kKey hx hH hl.keys hy (kx:=keyV k s) (fun m v h=>zps h) (keyK hk hs) (znz hl k s) ?_
 cases hg:zaJ l k s with
 | none=>exact k2 hg
 | some v=>exact k1 v hg
theorem TO.ztp{l:List (Int×Str×Int)}{s:Str}{k v:Int}{H':Heap}(hx:env.val x=some (.mp id))(hH:H[id]?=some (zbJ l))(hy:env.val y=some (.t (.ag [.i k,.s s])))(hw:env.val w=some (.i v))(hl:zaN l)(hn:zaJ l k s=none)(hk:0≤k/\k≤2)(hs:s.length≤1000000000)
  (hH':setS H id (zbJ (l++[(k,s,v)]))=some H')(kk:TO false Tryz.prog n all rest env H' K):
  TO false Tryz.prog n all (⟨none,.mapUpdate 160 x y w,ty,pos,aft,none⟩::rest) env H K:=by
 have hg:=znz hl k s
 rw[hn]at hg
 exact TO.mapUpdate zah rfl rfl kKey hx hH hl.keys hy (kx:=keyV k s) (fun m v h=>zps h) (keyK hk hs) hw rfl (.inr ⟨hg,by rw[qan];rfl⟩) (zjL hH').symm kk
end
def zcn(a:List Str)(ds:List Decl):List Str:=ds.foldl (fun a d=>d.clock.foldl (fun a o=>ins a o.name) (ins a d.name)) a
def zux(k:Int):Bool:=decide (k≠1/\k≠3/\k≠4/\k≠5/\k≠6/\k≠7/\k≠11)
def oneL(a:List Str)(x:Ex):List Str:=if zux x.kind.1=true then ins a x.name else a
def zl0(a:List Str)(u:En):List Str:=u.tags.foldl ins (ins a u.name)
def valD(s:Str):Nat:=s.foldl (fun a c=>10*a+(c.toNat-48)) 0
theorem zmL:∀(m u:Nat),u≤m->valD (Go.Lib.decDigits u)=u
 | m,u,h=>by
   have hd:∀k:Nat,k<10->(UInt8.ofNat (48+k)).toNat-48=k:=by
    intro k hk
    have:k=0\/k=1\/k=2\/k=3\/k=4\/k=5\/k=6\/k=7\/k=8\/k=9:=by omega
    rcases this with rfl|rfl|rfl|rfl|rfl|rfl|rfl|rfl|rfl|rfl <;> rfl
   rw[Go.Lib.decDigits]
   split
   ·rename_i hu
    simp[valD]
    omega
   ·cases m with
    | zero=>omega
    | succ m=>
      have ih:=zmL m (u / 10) (by omega)
      unfold valD at ih⊢
      rw[qbd,ih]
      simp only[qaY,qcF,hd _ (Nat.mod_lt _ (by decide:0<10))]
      omega
def zfY(base:Str)(n:Nat):Str:=base++[95]++Go.Lib.itoa (n:Int)
theorem zpG{base:Str}{n k:Nat}(h:zfY base n=zfY base k):n=k:=by
 have h1:Go.Lib.itoa (n:Int)=Go.Lib.itoa (k:Int):=List.append_cancel_left h
 unfold Go.Lib.itoa at h1
 rw[if_neg (by omega),if_neg (by omega)]at h1
 have h2:=congrArg valD h1
 rw[zmL _ _ (qae _),zmL _ _ (qae _)]at h2
 omega
def frs(l:List Str)(base:Str):Nat->Nat->Nat
 | 0,n=>n
 | f+1,n=>if zfY base n∈l then frs l base f (n+1) else n
theorem zpm(l:List Str)(base:Str):∀(f n:Nat),(zfY base (frs l base f n) ∉ l/\frs l base f n<n+f/\∀i,n≤i->i<frs l base f n->zfY base i∈l)\/∀i,n≤i->i<n+f->zfY base i∈l
 | 0,n=>.inr fun i h1 h2=>by omega
 | f+1,n=>by
   unfold frs
   split
   ·rename_i hm
    rcases zpm l base f (n+1)with ⟨h1,h2,h3⟩|h
    ·refine .inl ⟨h1,by omega,fun i q1 q2=>?_⟩
     by_cases hi:i=n
     ·rw[hi];exact hm
     ·exact h3 i (by omega) q2
    ·refine .inr fun i q1 q2=>?_
     by_cases hi:i=n
     ·rw[hi];exact hm
     ·exact h i (by omega) (by omega)
   ·rename_i hm
    exact .inl ⟨hm,by omega,fun i q1 q2=>by omega⟩
theorem zsh(l:List Str)(base:Str)(n:Nat):zfY base (frs l base (l.length+1) n) ∉ l/\frs l base (l.length+1) n<n+(l.length+1)/\∀i,n≤i->i<frs l base (l.length+1) n->zfY base i∈l:=by
 rcases zpm l base (l.length+1) n with h|h
 ·exact h
 ·exfalso
  have h1:((List.range (l.length+1)).map fun i=>zfY base (n+i)).Nodup:=by
   refine List.Pairwise.map _ (fun a b (hab:a≠b)=>?_) qcs
   intro he
   have:=zpG he
   omega
  have h2:=h1.length_le_of_subset (l₂:=l) (by
   intro x hx
   obtain⟨i,hi,rfl⟩:=qbf.1 hx
   have:=List.mem_range.1 hi
   exact h (n+i) (by omega) (by omega))
  simp at h2
  omega
def za2(l:List Str)(base:Str):Str:=zfY base (frs l base (l.length+1) 1)
end Go.Proofs.YtpnnpgbaiobbjaaGreatDoor
namespace Go.Proofs.YtpnnpgbaiobbjaaGreatDoor
open Go Go.TL
attribute [local irreducible] TR TO Then zam RetK Sound zab Kf GG zaX
structure Lv where
 own:List Str
 done:List Str
 defs:List Str
structure Lv.ok (a:Lv):Prop where
 own:zaE a.own
 done:zaE a.done
inductive Ch where
 | one (a:Lv)
 | c1 (i:List Str) (a:Lv)
 | c2 (i:List Str) (a b:Lv)
 | c3 (i:List Str) (a b c:Lv)
 | c4 (i:List Str) (a b c d:Lv)
abbrev nilP:SV:=.t (.v (.pointer none))
abbrev nilM:SV:=.t (.v (.map none))
abbrev nilS:SV:=.t (.v (.slice none 0 0))
abbrev rowB (l:List Str):Blk:=.row 9 (l.map T.s)
abbrev nmB (up:SV)(b:Nat)(inp:SV)(a:Lv):Blk:=.cells [up,.mp b,.mp (b+1),inp,.rw (b+3) (a.defs.map T.s).length]
abbrev lkB (p:Prog)(n q:Int):Blk:=.cells [.t (.sl 2 (p.enums.map enT)),.t (zax p.nodes),.i n,.i q,.mp 1]
namespace Ch
def vis0:Ch->List Str
 | one _=>[]|c1 _ _=>[]|c2 _ a _=>a.own|c3 _ a b _=>a.own++b.own|c4 _ a b c _=>a.own++b.own++c.own
def top:Ch->Lv
 | one a=>a|c1 _ a=>a|c2 _ _ b=>b|c3 _ _ _ c=>c|c4 _ _ _ _ d=>d
def low:Ch->List Str
 | one _=>[]|c1 i _=>i|c2 i a _=>i++a.done|c3 i a b _=>i++a.done++b.done|c4 i a b c _=>i++a.done++b.done++c.done
def set:Ch->Lv->Ch
 | one _,x=>one x|c1 i _,x=>c1 i x|c2 i a _,x=>c2 i a x|c3 i a b _,x=>c3 i a b x|c4 i a b c _,x=>c4 i a b c x
def vis(h:Ch):List Str:=h.vis0++h.top.own
def id:Ch->Nat
 | one _=>4|c1 .. =>4|c2 .. =>9|c3 .. =>13|c4 .. =>17
def N:Ch->Nat
 | one _=>5|c1 .. =>7|c2 .. =>11|c3 .. =>15|c4 .. =>19
def heap:Ch->Heap
 | one a=>[setB a.own,setB a.done,.cells [nilP,.mp 2,.mp 3,nilM,nilS]]
 | c1 i a=>[setB a.own,setB a.done,nmB nilP 2 (.mp 6) a,rowB a.defs,setB i]
 | c2 i a b=>[setB a.own,setB a.done,nmB nilP 2 (.mp 6) a,rowB a.defs,setB i,setB b.own,setB b.done,nmB (.ref 4 0) 7 nilM b,rowB b.defs]
 | c3 i a b c=>[setB a.own,setB a.done,nmB nilP 2 (.mp 6) a,rowB a.defs,setB i,setB b.own,setB b.done,nmB (.ref 4 0) 7 nilM b,rowB b.defs,setB c.own,setB c.done,nmB (.ref 9 0) 11 nilM c,rowB c.defs]
 | c4 i a b c d=>[setB a.own,setB a.done,nmB nilP 2 (.mp 6) a,rowB a.defs,setB i,setB b.own,setB b.done,nmB (.ref 4 0) 7 nilM b,rowB b.defs,setB c.own,setB c.done,nmB (.ref 9 0) 11 nilM c,rowB c.defs,setB d.own,setB d.done,nmB (.ref 13 0) 15 nilM d,rowB d.defs]
def ok:Ch->Prop
 | one a=>a.ok|c1 i a=>zaE i/\a.ok|c2 i a b=>zaE i/\a.ok/\b.ok|c3 i a b c=>zaE i/\a.ok/\b.ok/\c.ok|c4 i a b c d=>zaE i/\a.ok/\b.ok/\c.ok/\d.ok
end Ch
def Ch.push:Ch->Lv->Ch
 | .c1 i a,x=>.c2 i a x| .c2 i a b,x=>.c3 i a b x| .c3 i a b c,x=>.c4 i a b c x|h,_=>h
theorem Ch.lt{P:Ch->Prop}(k:∀h,let g:=h;P g):∀h,P h:=k
abbrev full (p:Prog)(n q:Int)(seen:List (Int×Str×Int))(h:Ch):Heap:=lkB p n q::zbJ seen::h.heap
theorem retV{rs:List ResultVar}{env:Env}{H:Heap}{v v':SV}(hr:zbU tab env H rs=some [v'])(hv:v'=v)(hu:v.under H.length=true)(hb:zac H.length H=true):
  RetK tab rs H.length (fun r H'=>r= .ret v/\H'=H) .ret env H:=RetK.at H.length hr (by subst hv;exact Le.refl _) (qae _) rfl hu hb ⟨rfl,rfl⟩
theorem bsv{a b:Bool}(h:a=b):SV.b a=SV.b b:=by rw[h]
theorem zov(p:Prog)(n q:Int)(seen:List (Int×Str×Int))(h:Ch)(hk:h.ok)(nm:Str)(hs:nm.length≤1000000000):
  Sound Tryz.prog 237 [.ref h.id 0,.s nm] (full p n q seen h) (fun r H'=>r= .ret (.b (decide (nm∈h.vis)))/\H'=full p n q seen h):=by
 cases h
 all_goals
  first
  | have a1:=hk.own
  | have a1:=hk.2.own
  | have a1:=hk.2.1.own;have b1:=hk.2.2.own
  | have a1:=hk.2.1.own;have b1:=hk.2.2.1.own;have c1:=hk.2.2.2.own
  | have a1:=hk.2.1.own;have b1:=hk.2.2.1.own;have c1:=hk.2.2.2.1.own;have d1:=hk.2.2.2.2.own
  simp only[full,Ch.heap,Ch.id,Ch.vis,Ch.vis0,Ch.top]
  refine so Tryz.func237 ?_
  repeat' (first|refine wkt ?_|refine wka ?_|refine wk ?_|exact wkc|intro hc|refine wk2 ?_ ?_|(apply TO.zgu;(iterate 4 exact rfl);assumption;assumption)|(apply TO.ziR;(iterate 3 exact rfl);assumption)|(apply TO.zev zah;(iterate 5 exact rfl))|(apply TO.zeu zah;(iterate 4 exact rfl))|refine TR.loop ?_|refine Then.normal ?_|refine Then.exit ?_|refine Then.ret ?_|fail)
  all_goals exact retV rfl (bsv (by simp_all)) rfl rfl
theorem zjf(p:Prog)(n q:Int)(seen:List (Int×Str×Int))(h:Ch)(hk:h.ok)(nm:Str)(hs:nm.length≤1000000000):
  Sound Tryz.prog 238 [.ref h.id 0,.s nm] (full p n q seen h) (fun r H'=>r= .ret (.b (decide (nm∈h.low\/nm∈h.top.done)))/\H'=full p n q seen h):=by
 cases h
 all_goals
  first
  | have a1:=hk.done
  | have a1:=hk.2.done
  | have a1:=hk.2.1.done;have b1:=hk.2.2.done
  | have a1:=hk.2.1.done;have b1:=hk.2.2.1.done;have c1:=hk.2.2.2.done
  | have a1:=hk.2.1.done;have b1:=hk.2.2.1.done;have c1:=hk.2.2.2.1.done;have d1:=hk.2.2.2.2.done
  have i1:=hk.1
  simp only[full,Ch.heap,Ch.id,Ch.low,Ch.top]
  refine so Tryz.func238 ?_
  repeat' (first|refine wkt ?_|refine wka ?_|refine wk ?_|exact wkc|intro hc|refine wk2 ?_ ?_|(apply TO.zgu;(iterate 4 exact rfl);assumption;assumption)|(apply TO.ziR;(iterate 3 exact rfl);assumption)|(apply TO.zev zah;(iterate 5 exact rfl))|(apply TO.zeu zah;(iterate 4 exact rfl))|refine TR.loop ?_|refine Then.normal ?_|refine Then.exit ?_|refine Then.ret ?_|fail)
  all_goals exact retV rfl (bsv (by simp_all)) rfl rfl
end Go.Proofs.YtpnnpgbaiobbjaaGreatDoor
namespace Go.TL
open Go
def zeS(K:TK):TK
 | .panic v,env,H=>K (.panic v) env (List.replicate H.length .dead)
 | e,env,H=>K e env H
section rules
variable {P:Program}{n:Nat}{env:Env}{H:Heap}{K:TK}
theorem Post.dead{φ:Fm}{m:M}{e:Exit}{a:Act}{w:World}(h:Post φ m n (zeS K) e a w):Post φ m n K e a w:=by
 obtain⟨m2,env2,te,rfl,s,hm,he,hd,hx,hk⟩:=h
 cases te with
 | normal=>exact⟨m2,env2,.normal,rfl,s,hm,he,hd,hx,hk⟩
 | exit i=>exact⟨m2,env2,.exit i,rfl,s,hm,he,hd,hx,hk⟩
 | ret=>exact⟨m2,env2,.ret,rfl,s,hm,he,hd,hx,hk⟩
 | panic v=>
   obtain⟨s1,hm1⟩:=zo7 hm
   refine⟨⟨m2.A,m2.β,m2.H.map fun _=>.dead,m2.w⟩,env2,.panic v,rfl,s.trans s1,hm1,he.step hm s1,hd,?_,?_⟩
   ·cases e with
    | panic ch=>obtain⟨x,x1,x2⟩:=hx;exact⟨x,x1,s1.srel hm x2⟩
    | _=>simp[zbg]at hx
   ·show K (.panic v) env2 (m2.H.map fun _=>Blk.dead)
    rw[List.map_const'];exact hk
theorem TR.dead{c:Code}(h:TR P n c env H (zeS K)):TR P n c env H K:=
 fun φ m a h1 h2 h3 h4=>zaY (h φ m a h1 h2 h3 h4) fun _ _ _ hp=>hp.dead
theorem zeS.normal(h:K .normal env H):zeS K .normal env H:=h
theorem zeS.ret(h:K .ret env H):zeS K .ret env H:=h
theorem zeS.errP{tab:Tab}{rs:List ResultVar}{N:Nat}{c:Int}{v pv:SV}{H1:Heap}(hc:c≠0)(hN:N≤H.length)(hu:∀k,pv.under k=true):zeS (RetK tab rs N (Err0 c v pv H1 N)) (.panic pv) env H:=
 RetK.errP (tab:=tab) (rs:=rs) (N:=N) (env:=env) (H:=List.replicate H.length .dead) hc (by simpa using hN) (hu _) (by rw[qb0];exact zcc _ _)
end rules
end Go.TL
