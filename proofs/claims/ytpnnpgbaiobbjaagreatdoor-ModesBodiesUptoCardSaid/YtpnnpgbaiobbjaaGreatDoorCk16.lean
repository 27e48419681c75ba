import Derived.DeepKeys5
import Derived.Lib.SliceRun
import Derived.Test.YtpnnpgbaiobbjaaGreatDoorCk15
set_option linter.all false
namespace Go.TL
open Go
section rules
variable {P:Program}{n:Nat}{env:Env}{H:Heap}{K:TK}{all:Array Oper}{rest:List Oper}{tab:Tab}{q:Bool}
variable {d:Nat}{ty:TypeId}{pos:String}{aft:Array Edge}
theorem TO.zkq(hT:zaA P tab){t xt:TypeId}{i:TyI}{x:Operand}{s:SV}(hd:Nat.ble (d+1) n=true)(hx:env.val x=some (.ifc t s))(ht:tab.get t=some i)(ha:i.k.agg=true)
  (k:TO q P n all rest ((d,.tup [s,.b true])::env) H K):TO q P n all (⟨some d,.typeAssert x xt t true,ty,pos,aft,none⟩::rest) env H K:=
 TO.op hd (fun m ac h1 h2 h3=>by
  have hv:=h3.val hx
  generalize hq:ac.eval x=u at hv
  cases hv with
  | ifc _ _ y hy=>
    obtain⟨dd,ti,z,g1,g2,g3,g4,g5,g6,g7,g8,g9⟩:=(hT t i ht).ex
    refine⟨.tuple #[y,.bool true],fun w' hw'=>?_,?_⟩
    ·cases hk:i.k <;> rw[hk]at ha g3 <;> simp[TK'.agg]at ha <;> cases dd <;> simp[TK'.fits]at g3 <;> simp[execOp,hq,Instr.typeAssert,run_underlying g1]
    ·refine .tup _ _ rfl fun j c z hc hz=>?_
     match j with
     | 0=>simp at hc hz;subst hc hz;exact hy
     | 1=>simp at hc hz;subst hc hz;exact .t _ _ (.v _)
     | j+2=>simp at hc) k
theorem TO.ziJ(hT:zaA P tab){t xt:TypeId}{i:TyI}{x:Operand}(hd:Nat.ble (d+1) n=true)(hx:env.val x=some (.t (.v .nilIface)))(ht:tab.get t=some i)(ha:i.k.agg=true)
  (k:TO q P n all rest ((d,.tup [.t (.ag i.zero),.b false])::env) H K):TO q P n all (⟨some d,.typeAssert x xt t true,ty,pos,aft,none⟩::rest) env H K:=
 TO.op hd (fun m ac h1 h2 h3=>by
  have hv:=h3.val hx
  generalize hq:ac.eval x=u at hv
  have hu:=hv.v_eq
  subst hu
  obtain⟨dd,ti,z,g1,g2,g3,g4,g5,g6,g7,g8,g9⟩:=(hT t i ht).ex
  obtain⟨cs,rfl⟩:=g8 ha
  obtain⟨z1,z2,z3⟩:=zbU (A:=m.A) (w:=m.w) _ _ g7
  refine⟨.tuple #[.agg cs,.bool false],fun w' hw'=>?_,?_⟩
  ·have hz:(zeroValue t).run P w'= .ok (.agg cs) w':=by simp[zeroValue,typeInfo,g2,g6]
   cases hk:i.k <;> rw[hk]at ha g3 <;> simp[TK'.agg]at ha <;> cases dd <;> simp[TK'.fits]at g3 <;> simp[execOp,hq,Instr.typeAssert,run_underlying g1,hz]
  ·refine .tup _ _ rfl fun j c z hc hz=>?_
   match j with
   | 0=>
     simp at hc hz;subst hc hz
     refine .t _ _ (.ag _ _ (by simpa [Value.cells]using z1.symm) (fun i y hy=>z2 i y (by simpa [Value.cells]using hy)) fun i c y hc hy=>z3 i c y hc (by simpa [Value.cells]using hy))
   | 1=>simp at hc hz;subst hc hz;exact .t _ _ (.v _)
   | j+2=>simp at hc) k
end rules
end Go.TL
namespace Go.Proofs.YtpnnpgbaiobbjaaGreatDoor
open Go Go.TL
attribute [local irreducible] TR TO Then zao RetK Sound zab Kf GG za1
theorem ziU(n q c:Int)(a b d:SV)(Hr:Heap)(hb:zac (Hr.length+2) Hr=true):
  zc3 Tryz.prog 70 [.ref 0 0,.ref 1 0] (.cells [a,b]:: .cells [d]::Hr) (some (ziu n q c)) (fun H3=>H3= .cells [.i n,.i q]:: .cells [.i c]::Hr):=by
 refine zc3.of (tab:=tab) Tryz.func70 (by kernel_rfl) rfl rfl rfl rfl ?_
 repeat' (first|refine wu ?_|exact wkc|intro hc|refine wk2 ?_ ?_|(apply TO.zkq zag;(iterate 4 exact rfl))|fail)
 refine Then.normal ?_
 repeat' (first|refine wkt ?_|fail)
 refine TR.zmW (envF:=?envF) (HF:=.cells [.i n,.i q]:: .cells [.i c]::Hr) [(.cp [T.i n,T.i q,T.i c] 0,false),(.t (.ag [T.i n,T.i q]),false),(.cp [T.i n,T.i q,T.i c] 2,false),(.i c,false),(.any,true),(.any,true)] [.cells [a,b]:: .cells [d]::Hr,.cells [.i n,.i q]:: .cells [d]::Hr,.cells [.i n,.i q]:: .cells [.i c]::Hr] hmix ?hB ?h0 ?hp ?hF ?hE ?hK
 case hB=>(dsimp only[List.map];decide +kernel)
 case h0=>exact rfl
 case hF=>exact rfl
 case hE=>exact rfl
 case hp=>repeat' (first|refine wu ?_|exact trivial|exact qah rfl rfl|refine qah (fun H env=>?_) ?_|refine qah (fun env=>?_) ?_|fail)
 repeat' (first|refine wu ?_|exact wkc|intro hc|refine wk2 ?_ ?_|fail)
 have ht:(Blk.cells [.i n,.i q]::Blk.cells [.i c]::Hr).take (Blk.cells [a,b]::Blk.cells [d]::Hr).length=Blk.cells [.i n,.i q]::Blk.cells [.i c]::Hr:=by simp
 refine⟨qaf _,?_,ht⟩
 show zac _ (List.take _ (Blk.cells [.i n,.i q]::Blk.cells [.i c]::Hr))=true
 rw[ht]
 exact hb
theorem zoJ(H:Heap)(hb:zac H.length H=true):
  zc3 Tryz.prog 70 [.ref 0 0,.ref 1 0] H none (fun H3=>H3=H):=by
 refine zc3.of (tab:=tab) Tryz.func70 (by kernel_rfl) rfl rfl rfl rfl ?_
 repeat' (first|refine wu ?_|exact wkc|intro hc|refine wk2 ?_ ?_|(apply TO.ziJ zag;(iterate 4 exact rfl))|fail)
 refine Then.normal ?_
 repeat' (first|refine wu ?_|exact wkc|intro hc|refine wk2 ?_ ?_|fail)
 exact⟨qaf _,by rw[qaX (qaf _)];exact hb,qaX (qaf _)⟩
theorem we3{G Q1 Q2:Prop}{f:FuncId}{cargs:List SV}{v pv:SV}{c:Int}{Hc H1:Heap}(hs:Sound Tryz.prog f cargs Hc (Err c v pv H1))(k1:Q1)(k2:Q2)(h:Sound Tryz.prog f cargs Hc (Err c v pv H1)->Hold Q1->Hold Q2->G:=by
  intro hs k1 k2
  (apply TO.zl1 [2] hs;(iterate 3 exact rfl);exact zqb;exact rfl;exact Hands.one rfl rfl;(iterate 4 exact rfl);exact k1.p;exact k2.p)):G:=h hs ⟨k1⟩ ⟨k2⟩
structure zgn (p:Prog) (w:Nat):Prop where
 es:p.enums.length≤w
 tg:∀u∈p.enums,u.tags.length≤w
 ns:p.nodes.length≤w
 nd:∀n∈p.nodes,(nodT n).w≤w
theorem zlm{p:Prog}{w:Nat}(hw:(T.ag (zav p)).w≤w):zgn p w:=by
 have l1:(T.sl 2 (p.enums.map enT)).w+(zaB p.nodes).w≤(T.ag (zav p)).w:=by rw[w_ag];simp only[zav,qaj,qay,qan,qaH];omega
 have b1:=zai enT 2 p.enums
 have b2:=zai nodT 8 p.nodes
 have h8:(zaB p.nodes).w=(T.sl 8 (p.nodes.map nodT)).w:=rfl
 refine⟨by omega,fun u hu=>?_,by omega,fun n hn=>?_⟩
 ·have:=zat (f:=enT) (sz:=2) hu
  rw[enT,w_ag]at this;simp only[qaj,qay,qan,qaH]at this
  have:=zai T.s 1 u.tags
  omega
 ·have:=zat (f:=nodT) (sz:=8) hn
  omega
theorem zgG(p:Prog)(hw:zgn p 1000000000):Pure Tryz.prog 29 [.t (.ag (zav p))] (.tup [.t (.ag [T.i (za9 p).1.1,T.i (za9 p).1.2]),.i (za9 p).2]):=by
 refine Sound.zra zag Tryz.func29 (by kernel_rfl) rfl rfl (gf:=70) (cv:=[.ref 0 0,.ref 1 0]) ?_
 unfold zav
 refine TD.seq ?_
 repeat' (first|refine wu ?_|fail)
 show TD _ _ (.seq _ _) _ _ _ _ _ _
 refine TD.defer (tz:=0) rfl rfl ?_
 have m1:(p.enums.map enT).length=p.enums.length:=qaa _
 have m2:(p.nodes.map nodT).length=p.nodes.length:=qaa _
 have b1:=hw.es
 have b2:=hw.ns
 have hen:∀(n q:Int) u,u∈p.enums->LS 72 [.t (.ag [.s u.name,.sl 1 (u.tags.map T.s)])] p.enums n q (zfs u):=fun n q u hu=>zml p.enums n q u (hw.tg u hu)
 have hno:∀(a b i:Int) u,u∈p.nodes->Sound Tryz.prog 73 [.ref 0 0,.i i,.t (.ag (nodC u))] [zco p.enums a b] (Err (zci p.enums u).2 (.tup []) (ziu i (zci p.enums u).1 (zci p.enums u).2) [zco p.enums i (-1)]):=fun a b i u hu=>zmQ p.enums a b i u (hw.nd u hu)
 have hz:za9 p=za9 p:=rfl
 conv at hz=>rhs;unfold za9 limE
 generalize za9 p=z at hz⊢
 refine wk ?_
 repeat' (first|refine wkt ?_|refine wka ?_|refine wk ?_|exact wkc|intro hc|refine wk2 ?_ ?_|(apply TO.zpH [2] (zq6 p.enums (-1) (-1) 3);(iterate 3 exact rfl);exact⟨Le.refl _,Le.refl _,Le.refl _,trivial⟩;exact rfl;exact Hands.one rfl rfl;exact rfl;exact rfl)|refine we3 (zq5 p.enums (-1) (-1) 3 (by decide)) ?_ ?_|fail)
 all_goals first
  | (have hzz:z=((-1,-1),3):=by rw[hz];clear hen hno;grind
     subst hzz
     exact⟨_,ziU _ _ _ _ _ _ _ rfl,fun H3 h=>by subst h;exact wkr⟩)
  | skip
 rw[if_neg (by clear hen hno hz;simp;omega)]at hz
 refine TR.zal p.enums.length (fun k=>zaf zfs (p.enums.take k)=0) (fun k=>[(1,.cp [.sl 2 (p.enums.map enT),zaB p.nodes] 0),(2,.ref 0 0),(3,.ref 1 0),(4,.ref 2 0),(28,.t (.sl 2 (p.enums.map enT))),(29,.i (p.enums.map enT).length),(30,.i k)])
  (fun k=>[.cells [.i 0,.i 0],.cells [.i 0],zco p.enums (-1) (-1)]) rfl (fun k hlt ha=>?_) (fun ha=>?_)
 ·have hx:(p.enums.map enT)[k]?=some (.ag [.s p.enums[k].name,.sl 1 (p.enums[k].tags.map T.s)]):=zas enT hlt
  have g1:=zaG (f:=zfs) hlt ha
  have g2:=zaq (f:=zfs) hlt ha
  have hs:=hen (-1) (-1) _ (qad hlt)
  generalize p.enums[k]=u at*
  clear hen hno
  repeat' (first|refine wkt ?_|refine wka ?_|refine wk ?_|exact wkc|intro hc|refine wk2 ?_ ?_|refine we3 hs ?_ ?_|fail)
  ·exact zab.zaw hlt (g2 hc)
  ·rw[if_pos (by rw[g1 hc];exact hc),g1 hc]at hz
   exact zwdb
 have e1:=zaH ha
 rw[if_neg (by simp[e1])]at hz
 clear hen
 refine wk ?_
 repeat' (first|refine wu ?_|exact wkc|intro hc|refine wk2 ?_ ?_|fail)
 refine TR.zal p.nodes.length (fun k=>zaf (fun n=>(zci p.enums n).2) (p.nodes.take k)=0) (fun k=>[(2,.ref 0 0),(3,.ref 1 0),(4,.ref 2 0),(39,.t (zaB p.nodes)),(40,.i (p.nodes.map nodT).length),(41,.i k)])
  (fun k=>[.cells [.i 0,.i 0],.cells [.i 0],zco p.enums ((k:Int)-1) (-1)]) rfl (fun k hlt ha=>?_) (fun ha=>?_)
 ·have hx:=zfe hlt
  have g1:=zaG (f:=fun n=>(zci p.enums n).2) hlt ha
  have g2:=zaq (f:=fun n=>(zci p.enums n).2) hlt ha
  have g3:=zhC (f:=fun n=>(zci p.enums n).2) hlt ha
  have hs:=hno ((k:Int)-1) (-1) k _ (qad hlt)
  have hat:p.nodes[k]?=some p.nodes[k]:=qac hlt
  generalize p.nodes[k]=u at*
  clear hno
  unfold nodC at hx hs
  repeat' (first|refine wkt ?_|refine wka ?_|refine wk ?_|exact wkc|intro hc|refine wk2 ?_ ?_|refine we3 hs ?_ ?_|fail)
  ·refine zab.zaw hlt (g2 hc) ?_ (by rw[show((k+1:Nat):Int)-1=k from by omega];rfl)
   repeat' (first|exact trivial|refine qah rfl ?_|fail)
  ·rw[if_neg (by rw[g1 hc];exact hc),g3 hc,g1 hc]at hz
   simp only[qcu,hat,qbb,qci]at hz
   exact zwdb
 have e2:=zaH ha
 rw[if_pos e2]at hz
 subst hz
 refine wk ?_
 repeat' (first|refine wu ?_|exact wkc|intro hc|refine wk2 ?_ ?_|fail)
 exact⟨_,zoJ _ rfl,fun H3 h=>by subst h;exact wkr⟩
theorem zlx(p:Prog)(hw:(T.ag (zav p)).w≤1000000000):Pure Tryz.prog 29 [.t (.ag (zav p))] (.tup [.t (.ag [T.i (za9 p).1.1,T.i (za9 p).1.2]),.i (za9 p).2]):=zgG p (zlm hw)
theorem kStr:Maps.Keyed Tryz.prog 9:=Maps.string_keyed Tryz.underlying9
set_option maxRecDepth 100000 in
theorem kKey:Maps.Keyed Tryz.prog 165:=Maps.Keyed.of_law (deep_law_laid (m:=3) (by kernel_rfl) (by decide) (qai (by kernel_rfl)) (by kernel_rfl) (by kernel_rfl))
theorem keyS{s:Str}(h:s.length≤1000000000):∃l,keyOf Tryz.prog 9 (str s)=some l:=by
 refine⟨.string s,?_⟩
 have:(⟨s.toArray⟩:ByteArray).size≤maxLen:=by
  show s.toArray.size≤maxLen
  simp[maxLen];omega
 simp[keyOf,Tryz.underlying9,mapKey,this]
abbrev keyV (k:Int)(s:Str):Value:=.agg #[.int .i64 k,str s]
theorem zv5:Tryz.prog.keyType 165=true:=by kernel_rfl
theorem ztf:Tryz.prog.cellsOf 165=2:=by kernel_rfl
theorem zvg:Tryz.prog.cellsOf 3=1:=by kernel_rfl
theorem zvh:Tryz.prog.cellsOf 9=1:=by kernel_rfl
theorem zvR:∃N,Tryz.prog.types.size=N+1:=⟨Tryz.prog.types.size-1,by kernel_rfl⟩
theorem zsE(N:Nat){k:Int}{s:Str}(hw:(Lit.int .i64 k).wf=true)(hs:(⟨s.toArray⟩:ByteArray).size≤maxLen):
  (Tryz.prog.keyLits (N+1+1) 165 [.int .i64 k,str s])=some [.int .i64 k,.string s]:=by
 have e1:∀c,Tryz.prog.keyLits (N+1) 3 [c]=(match c with| .int q' n=>if q'= .i64/\(Lit.int .i64 n).wf=true then some [.int .i64 n] else none|_=>none):=fun c=>by
  unfold Program.keyLits
  simp only[Tryz.underlying3]
  cases c <;> rfl
 have e2:Tryz.prog.keyLits (N+1) 9 [str s]=some [.string s]:=by
  unfold Program.keyLits
  simp only[Tryz.underlying9]
  rw[if_pos hs]
 unfold Program.keyLits
 simp only[Tryz.underlying165,ztf]
 simp only[qam,qaE,qbZ,List.mapM_nil,zvg,zvh,qbo,List.take,List.drop,e1,e2,hw]
 simp
theorem keyK{k:Int}{s:Str}(hk:0≤k/\k≤2)(h:s.length≤1000000000):∃l,keyOf Tryz.prog 165 (keyV k s)=some l:=by
 have hs:(⟨s.toArray⟩:ByteArray).size≤maxLen:=by
  show s.toArray.size≤maxLen
  simp[maxLen];omega
 have hw:(Lit.int .i64 k).wf=true:=by
  simp only[Lit.wf,qaA,decide_eq_true_eq]
  exact⟨by show(-9223372036854775808:Int)≤k;omega,by show k≤(9223372036854775807:Int);omega⟩
 have h5:(Value.agg #[.int .i64 k,str s]).formed Tryz.prog 165=true:=by
  simp only[Value.formed,Tryz.underlying165,ztf];rfl
 obtain⟨N,hN⟩:=zvR
 refine⟨.string (keyBytes [.int .i64 k,.string s]),?_⟩
 rw[keyOf,Tryz.underlying165]
 simp only[zv5,h5,hN,Value.cells,Bool.and_self,if_true,zsE N hw hs,qbb]
def ins(l:List Str)(s:Str):List Str:=if s∈l then l else l++[s]
abbrev setB (l:List Str):Blk:=.map 9 4 (l.map fun s=>(str s,.v (.bool true)))
abbrev zbR (l:List (Int×Str×Int)):Blk:=.map 165 3 (l.map fun e=>(keyV e.1 e.2.1,.v (.int .i64 e.2.2)))
structure zaE (l:List Str):Prop where
 nodup:l.Nodup
 short:∀s∈l,s.length≤1000000000
structure zaR (l:List (Int×Str×Int)):Prop where
 nodup:(l.map fun e=>(e.1,e.2.1)).Nodup
 short:∀e∈l,(0≤e.1/\e.1≤2)/\e.2.1.length≤1000000000
def zaK(l:List (Int×Str×Int))(k:Int)(s:Str):Option Int:=(l.find? fun e=>decide (e.1=k/\e.2.1=s)).map fun e=>e.2.2
theorem str_inj{a b:Str}(h:str a=str b):a=b:=by
 simp only[str,Value.string.injEq,ByteArray.mk.injEq]at h
 simpa using h
theorem znU{k j:Int}{a b:Str}(h:keyV k a=keyV j b):k=j/\a=b:=by
 simp only[keyV,Value.agg.injEq,Array.mk.injEq,qbg,Value.int.injEq,true_and,and_true]at h
 exact⟨h.1,str_inj h.2⟩
theorem zaE.nil:zaE []:=⟨qbh,by simp⟩
theorem zaE.ins{l:List Str}{s:Str}(h:zaE l)(hs:s.length≤1000000000):zaE (ins l s):=by
 unfold Go.Proofs.YtpnnpgbaiobbjaaGreatDoor.ins
 split
 ·exact h
 ·rename_i hn
  refine⟨qbq.2 ⟨h.nodup,by simp,fun a ha b hb e=>?_⟩,fun x hx=>?_⟩
  ·simp at hb;subst hb;subst e;exact hn ha
  ·simp at hx;rcases hx with hx|rfl
   ·exact h.short x hx
   ·exact hs
theorem zaE.keys{l:List Str}(h:zaE l):zkl Tryz.prog 9 (l.map fun s=>(str s,.v (.bool true))):=by
 intro j e he
 rw[qau]at he
 cases hq:l[j]? with
 | none=>rw[hq]at he;cases he
 | some s=>rw[hq]at he;cases he;exact keyS (h.short s (qat hq))
theorem zaR.nil:zaR []:=⟨qbh,by simp⟩
theorem zaR.keys{l:List (Int×Str×Int)}(h:zaR l):zkl Tryz.prog 165 (l.map fun e=>(keyV e.1 e.2.1,.v (.int .i64 e.2.2))):=by
 intro j e he
 rw[qau]at he
 cases hq:l[j]? with
 | none=>rw[hq]at he;cases he
 | some s=>rw[hq]at he;cases he;have:=h.short s (qat hq);exact keyK this.1 this.2
theorem zaR.add{l:List (Int×Str×Int)}{k v:Int}{s:Str}(h:zaR l)(hk:0≤k/\k≤2)(hs:s.length≤1000000000)(hn:zaK l k s=none):zaR (l++[(k,s,v)]):=by
 refine⟨?_,fun e he=>?_⟩
 ·rw[qak]
  refine qbq.2 ⟨h.nodup,by simp,fun a ha b hb e=>?_⟩
  simp at hb;subst hb;subst e
  obtain⟨e,he,heq⟩:=qa1.1 ha
  simp only[zaK,Option.map_eq_none_iff,List.find?_eq_none,decide_eq_true_eq]at hn
  simp only[qcl]at heq
  exact hn e he heq
 ·simp at he;rcases he with he|rfl
  ·exact h.short e he
  ·exact⟨hk,hs⟩
theorem zrq{l:List Str}(h:zaE l)(s:Str):zpn (l.map fun s=>(str s,T.v (.bool true))) (str s) (if s∈l then some (.v (.bool true)) else none):=by
 by_cases hm:s∈l
 ·rw[if_pos hm]
  obtain⟨j,hj⟩:=qbc hm
  refine⟨j,by simp[hj],fun j' t' h'=>?_⟩
  rw[qau]at h'
  cases hq:l[j']? with
  | none=>rw[hq]at h';cases h'
  | some x=>
    rw[hq]at h'
    simp only[qbb,qaI,qcl]at h'
    have:=str_inj h'.1
    subst this
    exact(List.getElem?_inj (qab.1 hq).1 h.nodup).1 (hq.trans hj.symm)
 ·rw[if_neg hm]
  intro j e he e2
  rw[qau]at he
  cases hq:l[j]? with
  | none=>rw[hq]at he;cases he
  | some x=>
    rw[hq]at he;cases he
    have:=str_inj e2
    subst this
    exact hm (qat hq)
theorem zuR{l:List Str}(h:zaE l)(s:Str):zs9 (l.map fun s=>(str s,T.v (.bool true))) (str s) (.v (.bool true)) ((ins l s).map fun s=>(str s,T.v (.bool true))):=by
 have hg:=zrq h s
 unfold ins
 by_cases hm:s∈l
 ·rw[if_pos hm]at hg⊢
  obtain⟨j,hj,hu⟩:=hg
  refine .inl ⟨j,_,hj,hu,?_⟩
  have hlt:=(qab.1 hj)
  conv=>rhs;rw[<-hlt.2]
  rw[qb9]
 ·rw[if_neg hm]at hg⊢
  exact .inr ⟨hg,by simp⟩
theorem zob{l:List (Int×Str×Int)}(h:zaR l)(k:Int)(s:Str):zpn (l.map fun e=>(keyV e.1 e.2.1,T.v (.int .i64 e.2.2))) (keyV k s) ((zaK l k s).map fun v=>.v (.int .i64 v)):=by
 unfold zaK
 cases hf:l.find? (fun e=>decide (e.1=k/\e.2.1=s)) with
 | none=>
   rw[List.find?_eq_none]at hf
   intro j e he e2
   rw[qau]at he
   cases hq:l[j]? with
   | none=>rw[hq]at he;cases he
   | some x=>
     rw[hq]at he;cases he
     exact hf x (qat hq) (by simpa using znU e2)
 | some e=>
   have hm:=List.mem_of_find?_eq_some hf
   have hp:=List.find?_some hf
   simp only[decide_eq_true_eq]at hp
   obtain⟨j,hj⟩:=qbc hm
   refine⟨j,by simp[hj,hp.1,hp.2],fun j' t' h'=>?_⟩
   rw[qau]at h'
   cases hq:l[j']? with
   | none=>rw[hq]at h';cases h'
   | some x=>
     rw[hq]at h'
     simp only[qbb,qaI,qcl]at h'
     have h1:=znU h'.1
     have e1:(l.map fun e=>(e.1,e.2.1))[j']?=some (k,s):=by simp[hq,h1.1,h1.2]
     have e2:(l.map fun e=>(e.1,e.2.1))[j]?=some (k,s):=by simp[hj,hp.1,hp.2]
     exact(List.getElem?_inj (qab.1 e1).1 h.nodup).1 (e1.trans e2.symm)
theorem zqP{k:Int}{s:Str}{m:M}{v:Value}(h:SRel m (.t (.ag [.i k,.s s])) v):v=keyV k s:=by
 cases h with
 | t _ _ h=>
   cases h with
   | ag _ arr hs h1 h2=>
     obtain⟨l⟩:=arr
     match l,hs with
     | [a,b],_=>
       have ha:=h2 0 _ a rfl rfl
       have hb:=h2 1 _ b rfl rfl
       cases ha;cases hb
       rfl
section
variable {n:Nat}{env:Env}{K:TK}{all:Array Oper}{rest:List Oper}{d id:Nat}{ty:TypeId}{pos:String}{aft:Array Edge}{H:Heap}{x y w:Operand}{q:Bool}
theorem TO.zgF{l:List Str}{s:Str}(hd:Nat.ble (d+1) n=true)(hx:env.val x=some (.mp id))(hH:H[id]?=some (setB l))(hy:env.val y=some (.s s))(hl:zaE l)(hs:s.length≤1000000000)
  (k1:s∈l->TO q Tryz.prog n all rest ((d,.b true)::env) H K)(k2:s ∉ l->TO q Tryz.prog n all rest ((d,.b false)::env) H K):
  TO q Tryz.prog n all (⟨some d,.lookup 88 x y false,ty,pos,aft,none⟩::rest) env H K:=by
 refine TO.lookup zag hd rfl rfl rfl rfl rfl kStr hx hH hl.keys hy (kx:=str s) (fun m v h=>h.v_eq) (keyS hs) (zrq hl s) ?_
 by_cases hm:s∈l
 ·rw[if_pos hm];exact k1 hm
 ·rw[if_neg hm];exact k2 hm
theorem TO.zjb{s:Str}(hd:Nat.ble (d+1) n=true)(hx:env.val x=some (.t (.v (.map none))))(hy:env.val y=some (.s s))(hs:s.length≤1000000000)(k:TO q Tryz.prog n all rest ((d,.b false)::env) H K):
  TO q Tryz.prog n all (⟨some d,.lookup 88 x y false,ty,pos,aft,none⟩::rest) env H K:=
 TO.lookup_nil zag hd rfl rfl rfl rfl rfl kStr hx hy (kx:=str s) (fun m v h=>h.v_eq) (keyS hs) k
theorem TO.zoc{l:List Str}{s:Str}{H':Heap}(hx:env.val x=some (.mp id))(hH:H[id]?=some (setB l))(hy:env.val y=some (.s s))(hw:env.val w=some (.b true))(hl:zaE l)(hs:s.length≤1000000000)
  (hH':setS H id (setB (ins l s))=some H')(k:TO false Tryz.prog n all rest env H' K):
  TO false Tryz.prog n all (⟨none,.mapUpdate 88 x y w,ty,pos,aft,none⟩::rest) env H K:=
 TO.mapUpdate zag rfl rfl kStr hx hH hl.keys hy (kx:=str s) (fun m v h=>h.v_eq) (keyS hs) hw rfl (zuR hl s) (zj3 hH').symm k
theorem TO.zj2{l:List (Int×Str×Int)}{s:Str}{k:Int}(hd:Nat.ble (d+1) n=true)(hx:env.val x=some (.mp id))(hH:H[id]?=some (zbR l))(hy:env.val y=some (.t (.ag [.i k,.s s])))(hl:zaR l)(hk:0≤k/\k≤2)(hs:s.length≤1000000000)
  (k1:∀v,zaK l k s=some v->TO q Tryz.prog n all rest ((d,.tup [.i v,.b true])::env) H K)(k2:zaK l k s=none->TO q Tryz.prog n all rest ((d,.tup [.i 0,.b false])::env) H K):
  TO q Tryz.prog n all (⟨some d,.lookup 160 x y true,ty,pos,aft,none⟩::rest) env H K:=by
 refine TO.lookup zag hd rfl rfl rfl rfl rfl kKey hx hH hl.keys hy (kx:=keyV k s) (fun m v h=>zqP h) (keyK hk hs) (zob hl k s) ?_
 cases hg:zaK l k s with
 | none=>exact k2 hg
 | some v=>exact k1 v hg
theorem TO.zuO{l:List (Int×Str×Int)}{s:Str}{k v:Int}{H':Heap}(hx:env.val x=some (.mp id))(hH:H[id]?=some (zbR l))(hy:env.val y=some (.t (.ag [.i k,.s s])))(hw:env.val w=some (.i v))(hl:zaR l)(hn:zaK l k s=none)(hk:0≤k/\k≤2)(hs:s.length≤1000000000)
  (hH':setS H id (zbR (l++[(k,s,v)]))=some H')(kk:TO false Tryz.prog n all rest env H' K):
  TO false Tryz.prog n all (⟨none,.mapUpdate 160 x y w,ty,pos,aft,none⟩::rest) env H K:=by
 have hg:=zob hl k s
 rw[hn]at hg
 exact TO.mapUpdate zag rfl rfl kKey hx hH hl.keys hy (kx:=keyV k s) (fun m v h=>zqP h) (keyK hk hs) hw rfl (.inr ⟨hg,by rw[qak];rfl⟩) (zj3 hH').symm kk
end
end Go.Proofs.YtpnnpgbaiobbjaaGreatDoor
namespace Go.TL
open Go
section rules
variable {P:Program}{all:Array Oper}
def allH(Q:Heap->Prop):List Heap->Prop
 | []=>True
 | H::l=>Q H/\allH Q l
theorem znm{Q:Heap->Prop}:∀ {l:List Heap},allH Q l->∀H∈l,Q H
 | [],_,H,h=>by cases h
 | x::l,h,H,hm=>by
   rcases qa4.1 hm with rfl|hm
   ·exact h.1
   ·exact znm h.2 H hm
def atG(c:Nat)(g:Prop)(i:Nat):Prop:=bif Nat.beq i c then g else True
def zjr(P:Program)(n:Nat)(K:TK)(c:Nat)(g:Prop)(all:Array Oper)(full:Env)(G:List Heap):Nat->List Oper->List (SV×Nat×Nat)->List Heap->Prop
 | _,[],[],_=>True
 | i,o::l,(v,lo,hi)::t,hs=>bif Nat.blt hi lo then(match hs with
    | H1::H2::hs=>(∀env,TO false P n all [o] (zar full (slotsOf all o)++env) H1 (NKP K (atG c g i) (putE o.dst v (zar full (slotsOf all o)++env)) H2))/\zjr P n K c g all full G (i+1) l t (H2::hs)
    | _=>False)
   else allH (fun H=>∀env,TO false P n all [o] (zar full (slotsOf all o)++env) H (NKP K (atG c g i) (putE o.dst v (zar full (slotsOf all o)++env)) H)) ((G.drop lo).take (hi+1-lo))/\zjr P n K c g all full G (i+1) l t hs
 | _,_,_,_=>False
abbrev efX (x:SV×Nat×Nat):Bool:=Nat.blt x.2.2 x.2.1
def effX(t:List (SV×Nat×Nat))(i:Nat):Nat:=((t.take i).filter efX).length
theorem zjr.get{n:Nat}{K:TK}{c:Nat}{g:Prop}{full:Env}{G:List Heap}:∀ {l:List Oper} {t:List (SV×Nat×Nat)} {hs:List Heap} {k:Nat},zjr P n K c g all full G k l t hs->l.length=t.length/\∀(i:Nat) o x,l[i]?=some o->t[i]?=some x->
   (efX x=false->allH (fun H=>∀env,TO false P n all [o] (zar full (slotsOf all o)++env) H (NKP K (atG c g (k+i)) (putE o.dst x.1 (zar full (slotsOf all o)++env)) H)) ((G.drop x.2.1).take (x.2.2+1-x.2.1)))/\
   (efX x=true->∃H1 H2,hs[effX t i]?=some H1/\hs[effX t i+1]?=some H2/\∀env,TO false P n all [o] (zar full (slotsOf all o)++env) H1 (NKP K (atG c g (k+i)) (putE o.dst x.1 (zar full (slotsOf all o)++env)) H2))
 | [],[],hs,k,_=>by simp
 | o::l,(v,lo,hi)::t,hs,k,h=>by
   simp only[zjr]at h
   cases hb:Nat.blt hi lo with
   | false=>
     rw[hb]at h
     obtain⟨h1,h2⟩:=h
     obtain⟨g1,g2⟩:=zjr.get h2
     refine⟨by simp[g1],fun i o' x' ho hv=>?_⟩
     cases i with
     | zero=>simp at ho hv;subst hv;subst ho;exact⟨fun _=>h1,fun e=>by rw[show efX (v,lo,hi)=Nat.blt hi lo from rfl,hb]at e;cases e⟩
     | succ i=>
       have:=g2 i o' x' (by simpa using ho) (by simpa using hv)
       have e:effX ((v,lo,hi)::t) (i+1)=effX t i:=by simp[effX,efX,hb]
       rw[e,show k+(i+1)=k+1+i by omega]
       exact this
   | true=>
     rw[hb]at h
     match hs,h with
     | H1::H2::hs,h=>
       obtain⟨h1,h2⟩:=h
       obtain⟨g1,g2⟩:=zjr.get h2
       refine⟨by simp[g1],fun i o' x' ho hv=>?_⟩
       cases i with
       | zero=>simp at ho hv;subst hv;subst ho;exact⟨fun e=>by(rw[show efX (v,lo,hi)=Nat.blt hi lo from rfl,hb]at e;cases e),fun _=>⟨H1,H2,rfl,rfl,h1⟩⟩
       | succ i=>
         have:=g2 i o' x' (by simpa using ho) (by simpa using hv)
         have e:effX ((v,lo,hi)::t) (i+1)=effX t i+1:=by simp[effX,efX,hb]
         rw[e,show k+(i+1)=k+1+i by omega]
         simpa using this
     | [],h=>exact h.elim
     | [_],h=>exact h.elim
 | [],_::_,_,_,h=>by exact h.elim
 | _::_,[],_,_,h=>by exact h.elim
def ztz(ops:Array Oper)(t:List (Nat×Nat))(m:Nat):Bool:=
 (List.range t.length).all fun i=>match t[i]? with
   | some x=>Nat.blt x.2 x.1 || (List.range m).all fun c=>!okC ops (t.map fun x=>Nat.blt x.2 x.1) i c || (Nat.ble x.1 c && Nat.ble c x.2)
   | none=>true
theorem TR.zaD(c:Nat){g:Prop}{n:Nat}{env0 envF:Env}{H0 HF:Heap}{K:TK}{id':Nat}{l:List Oper}(t:List (SV×Nat×Nat))(hs:List Heap)(hm:P.follows .mixedOrders=true)
  (hB:(mixB l.toArray ((t.map (·.2)).map fun x=>Nat.blt x.2 x.1) && ztz l.toArray (t.map (·.2)) hs.length)=true)(h0:hs[0]?=some H0)
  (hp:zjr P n K c g l.toArray (za7 l.toArray (t.map (·.1)) env0) hs 0 l t hs)(hc:Nat.blt c l.length=true)(hF:hs[(t.filter efX).length]?=some HF)(hE:zbu (za7 l.toArray (t.map (·.1)) env0)=some envF)(hK:g->K .normal envF HF):
  TR P n (.region id' l.toArray true) env0 H0 K:=by
 obtain⟨g1,g2⟩:=hp.get
 rw[qaA]at hB
 obtain⟨hB,hR⟩:=hB
 have hfl:(t.map (·.2)).map (fun x=>Nat.blt x.2 x.1)=t.map efX:=by rw[qbi];rfl
 rw[hfl]at hB
 intro φ m a h1 h2 h3 h4
 have hef:∀i,((t.map efX).take i |>.filter id).length=effX t i:=by
  exact zwew
 have hall:((t.map efX).filter id).length=(t.filter efX).length:=by
  rw[qcm,qaa];rfl
 have s0:Step m ⟨m.A,m.β,m.H,{ m.w with drawn:=m.w.drawn+1 }⟩/\HRel ⟨m.A,m.β,m.H,{ m.w with drawn:=m.w.drawn+1 }⟩:=zcT h2 ⟨rfl,rfl,rfl,qaf _,fun _ _=>rfl⟩
 refine zbo (wpIn_region_any hm ?_)
 refine zgV [] (G:=fun i=>atG c g (0+i)) (vs:=t.map (·.1)) (fl:=t.map efX) (hs:=hs) (m0:=m) (fun t ht=>by cases ht) hB (by simp[g1]) (by simp[g1]) ?_ ?_ (by rw[hall];exact hF) (fun hG=>by
   rw[zaU hE]at hK
   have:=hG c (by have:=qai hc;simp;omega)
   unfold atG at this
   rw[qaO,show Nat.beq c c=true from qbt c]at this
   exact hK this) l.toArray.size (Array.replicate l.toArray.size false)
  ⟨m.A,m.β,m.H,{ m.w with drawn:=m.w.drawn+1 }⟩ a (by simp) ?_ ?_ ?_ s0.1 s0.2 ?_ (h4.step h2 s0.1)
 ·exact zwd
 ·exact zwba
 ·exact zwfg
 ·exact zwci
 ·exact zwbz
 ·exact zwh
end rules
end Go.TL
namespace Go.Proofs.YtpnnpgbaiobbjaaGreatDoor
open Go Go.TL
attribute [local irreducible] TR TO Then zao RetK Sound zab Kf GG za1
section rules
variable {n:Nat}{env env':Env}{H H':Heap}{K:TK}{all:Array Oper}{rest l:List Oper}{d:Nat}{ty:TypeId}{pos:String}{aft:Array Edge}{q:Bool}{st:St}{fr fr':List Fr1}
theorem goB(h:run1 tab n true 300 ⟨.ops q all l,env,H,[]⟩=some ⟨st,env',H',fr'⟩)(hk:GG Tryz.prog n K ⟨st,env',H',fr'⟩):TO q Tryz.prog n all l env H K:=TO.go0 zag 300 true h hk
theorem zve{cargs:List SV}{v:SV}{f:Operand}{fid:FuncId}{caps:List SV}{args:Array Operand}{ts:Array TypeId}{vs:List SV}(hs:Pure Tryz.prog fid cargs v)(hd:Nat.ble (d+1) n=true)
  (hf:env.val f=some (.fn fid caps))(ha:env.vals args.toList=some vs)(hl:Les (vs++caps) cargs)(hu:unders 0 cargs=true)(hv:v.under 0=true)
  (k:TO false Tryz.prog n all rest ((d,v)::env) H K):
  TO false Tryz.prog n all (⟨some d,.call { callee:=.value f,args:=args,argTypes:=ts },ty,pos,aft,none⟩::rest) env H K:=TO.ze0 hs hd hf ha hl hu hv k
end rules
theorem wma{G Q:Prop}(k:Q)(h:Hold Q->G:=by
  first
  | (intro k;apply goA;exact rfl;(first|apply GG.to|apply GG.stop|apply GG.ex);exact k.p)
  | (intro k;apply goC;exact rfl;(first|apply GG.to|apply GG.stop|apply GG.ex);exact k.p)
  | (intro k;apply goB;exact rfl;(first|apply GG.to|apply GG.stop|apply GG.ex);exact k.p)):G:=h ⟨k⟩
theorem wmk{G Q:Prop}(k:Q)(h:Hold Q->G:=by
  first
  | (intro k;apply TO.want;exact rfl;exact k.p)
  | (intro k;apply TO.add;(iterate 3 exact rfl);exact zql;exact zql;exact k.p)
  | (intro k;apply TO.cat;(iterate 3 exact rfl);exact zql;exact k.p)):G:=h ⟨k⟩
theorem wmv{G Q:Prop}{f:FuncId}{cargs:List SV}{v:SV}(hs:Pure Tryz.prog f cargs v)(k:Q)(h:Pure Tryz.prog f cargs v->Hold Q->G:=by
  intro hs k
  apply zve;exact hs;(iterate 3 exact rfl);exact zqb;exact rfl;exact rfl;exact k.p):G:=h hs ⟨k⟩
end Go.Proofs.YtpnnpgbaiobbjaaGreatDoor
namespace Go.TL
open Go
theorem zvn{m:M}(hm:HRel m){R:Nat}{e:TypeId}{ts:List T}{p:Place}(hp:m.β[R]?=some p)(hH:m.H[R]?=some (.row e ts)):
  Step m ⟨m.A,m.β++[p],m.H.set R .dead++[.cells (ts.map .t)],m.w⟩/\HRel ⟨m.A,m.β++[p],m.H.set R .dead++[.cells (ts.map .t)],m.w⟩:=by
 have hR:=(qab.1 hH).1
 have hlen:=hm.len
 have pick:∀(i:Nat) q c,(m.β++[p])[i]?=some q->(m.H.set R .dead++[Blk.cells (ts.map .t)])[i]?=some c->c.live=true->(i=m.H.length/\q=p/\c= .cells (ts.map .t))\/(i≠R/\i<m.H.length/\m.β[i]?=some q/\m.H[i]?=some c):=by
  intro i q c h1 h2 hl
  by_cases hi:i<m.H.length
  ·rw[qas (by rw[hlen];exact hi)]at h1
   rw[qas (by simpa using hi)]at h2
   by_cases hir:i=R
   ·subst hir
    rw[qav hR]at h2
    cases h2;cases hl
   ·rw[qaJ (by omega)]at h2
    exact .inr ⟨hir,hi,h1,h2⟩
  ·rw[qaD (by rw[hlen];omega)]at h1
   rw[qaD (by simp;omega)]at h2
   have:i=m.H.length:=by
    have:=(qab.1 h2).1
    simp at this;omega
   subst this
   simp[hlen]at h1 h2
   exact .inl ⟨rfl,h1.symm,h2.symm⟩
 have own:∀b o,Own ⟨m.A,m.β++[p],m.H.set R .dead++[.cells (ts.map .t)],m.w⟩ b o->Own m b o:=by
  rintro b o ⟨i,q,c,h1,h2,h3,h4⟩
  rcases pick i q c h1 h2 h3 with ⟨rfl,rfl,rfl⟩|⟨_,_,g1,g2⟩
  ·exact⟨R,q,_,hp,hH,rfl,h4⟩
  ·exact⟨i,q,c,g1,g2,h3,h4⟩
 have s:Step m ⟨m.A,m.β++[p],m.H.set R .dead++[.cells (ts.map .t)],m.w⟩:=by
  refine⟨rfl,rfl,rfl,qaf _,fun _ _ h=>h,fun _ _ h=>.inl h,fun b o h=>.inl (own b o h),fun _ _ _ _=>rfl,fun _ _ _ _ _=>rfl,fun _ _ _=>rfl,fun _ _ h=>h,fun _ L h=>⟨L,h⟩,fun _ _ _ h=>h,fun i q hq=>⟨q,?_,?_⟩⟩
  ·show(m.β++[p])[i]?=some q
   exact zwfc
  ·have hi:i<m.H.length:=by rw[<-hlen];exact(qab.1 hq).1
   show zaX m.H[i]? (m.H.set R .dead++[Blk.cells (ts.map .t)])[i]? q q
   rw[qas (by simpa using hi)]
   by_cases hir:i=R
   ·subst hir
    rw[qav hR,hH]
    intro n' h
    cases h
   ·rw[qaJ (by omega)]
    exact zaX.refl _ _
 obtain⟨⟨r1,r2,r3⟩,r4,r5⟩:=hm.blk R p _ hp hH
 refine⟨s,by simp[hlen],fun i q c h1 h2=>?_,fun i j q q' c c' hij h1 h2 h3 h4 hc hc'=>?_,fun b o h hn=>hm.still b o h (own b o hn),hm.inA,fun i q c h1 h2 hc hq=>?_,s.glob hm⟩
 ·cases hlv:c.live with
  | false=>cases c <;> simp[Blk.live]at hlv;trivial
  | true=>
    rcases pick i q c h1 h2 hlv with ⟨rfl,rfl,rfl⟩|⟨_,_,g1,g2⟩
    ·refine⟨by simp[r1];exact r2,r4,fun j c hc=>?_⟩
     rw[qau]at hc
     cases ht:ts[j]? with
     | none=>rw[ht]at hc;cases hc
     | some t=>
       rw[ht]at hc;cases hc
       obtain⟨y,y1,y2,y3⟩:=r5 j t ht
       exact⟨y,y1,y2,.t _ _ y3⟩
    ·exact(hm.blk i q c g1 g2).step hm s (fun o _ _=>⟨rfl,fun _=>rfl⟩) (fun _=>rfl)
 ·rcases pick i q c h1 h2 hc with ⟨rfl,rfl,rfl⟩|⟨a0,a1,a2,a3⟩
  ·rcases pick j q' c' h3 h4 hc' with ⟨rfl,rfl,rfl⟩|⟨b0,b1,b2,b3⟩
   ·exact absurd rfl hij
   ·exact hm.apart R j _ _ _ _ (fun e=>b0 e.symm) hp hH b2 b3 rfl hc'
  ·rcases pick j q' c' h3 h4 hc' with ⟨rfl,rfl,rfl⟩|⟨b0,b1,b2,b3⟩
   ·exact hm.apart i R _ _ _ _ a0 a2 a3 hp hH hc rfl
   ·exact hm.apart i j _ _ _ _ hij a2 a3 b2 b3 hc hc'
 ·rcases pick i q c h1 h2 hc with ⟨rfl,rfl,rfl⟩|⟨a0,a1,a2,a3⟩
  ·exact hm.inO R _ _ hp hH rfl hq
  ·exact hm.inO i q c a2 a3 hc hq
section rules
variable {P:Program}{n:Nat}{env:Env}{H:Heap}{K:TK}{all:Array Oper}{rest:List Oper}{tab:Tab}
variable {d:Nat}{ty:TypeId}{pos:String}{aft:Array Edge}{q:Bool}
theorem TO.fix(x:Nat){R len:Nat}{e:TypeId}{ts:List T}{H':Heap}{ops:List Oper}(hx:env.look x=some (.rw R len))(hH:H[R]?=some (.row e ts))(hl:len=ts.length)(hpos:0<ts.length)(hH':H.set R .dead++[.cells (ts.map .t)]=H')
  (k:TO false P n all ops ((x,.ms 1 H.length 0 len)::env) H' K):TO false P n all ops env H K:=by
 intro φ m a h1 h2 h3 h4
 obtain⟨y,y1,y2⟩:=h3.2 x _ hx
 cases y2 with
 | rw _ _ _ p hp hxs ho=>
   have hH1:m.H[R]?=some (.row e ts):=by rw[h1];exact hH
   obtain⟨s,hm'⟩:=zvn h2 hp hH1
   have hho:=(ho ts.length (by rw[hH1];rfl)).2 (by rw[hl])
   obtain⟨ad,cap,hyq,hc1,hc2,hc3,hc4⟩:=hho
   have hE:ERel ⟨m.A,m.β++[p],m.H.set R .dead++[.cells (ts.map .t)],m.w⟩ n ((x,.ms 1 H.length 0 len)::env) a.tmps:=by
    refine⟨h3.1,fun i v hv=>?_⟩
    by_cases hi:x=i
    ·subst hi
     rw[Env.zam]at hv
     cases hv
     refine⟨y,y1,?_⟩
     cases ad with
     | none=>simp only at hc4;omega
     | some a0=>
       obtain⟨hc4,hc5⟩:=hc4
       subst hyq hc4
       have hz:(⟨p.b,0,none⟩:Addr)=⟨p.b,p.lo+0,none⟩:=by rw[hc2]
       rw[hz]
       refine .ms 1 H.length 0 len cap p ?_ ?_ hc1 (by omega)
       ·show(m.β++[p])[H.length]?=some p
        rw[<-h1,<-h2.len,qaD (qaf _)];simp
       ·intro n' hn
        have:(m.H.set R .dead++[Blk.cells (ts.map .t)])[H.length]?=some (.cells (ts.map .t)):=by
         rw[<-h1,qaD (by simp)];simp
        rw[show(M.H ⟨m.A,m.β++[p],m.H.set R .dead++[.cells (ts.map .t)],m.w⟩)[H.length]?=_ from this]at hn
        cases hn
    ·rw[Env.zak _ _ hi]at hv
     exact(h3.step h2 s).2 i v hv
   exact TO.zeT (m':=⟨m.A,m.β++[p],m.H.set R .dead++[.cells (ts.map .t)],m.w⟩) s (k φ ⟨m.A,m.β++[p],m.H.set R .dead++[.cells (ts.map .t)],m.w⟩ a (by show m.H.set R .dead++_=H';rw[h1];exact hH') hm' hE (h4.step h2 s))
theorem TO.effV{op:Op}{H':Heap}
  (h:∀(m:M) (a:Act),m.H=H->HRel m->ERel m n env a.tmps->∃x m',(execOp a.eval ⟨none,op,ty,pos,aft,none⟩).run P m.w= .ok (.value x) m'.w/\Step m m'/\HRel m'/\m'.H=H')
  (k:TO false P n all rest env H' K):TO false P n all (⟨none,op,ty,pos,aft,none⟩::rest) env H K:=by
 intro φ m a h1 h2 h3 h4
 obtain⟨x,m',hx,s,hm',hH'⟩:=h m a h1 h2 h3
 refine wpListIn_plain rfl fun K' hK=>?_
 unfold Oper.wpIn
 refine⟨fun _ _=>trivial,?_⟩
 rw[za0 hx (by intro d e;cases e)]
 simp only[Oper.uponIn]
 exact hK _ _ (TO.zeT s (k φ m' _ hH' hm' (by simpa [Act.put]using h3.step h2 s) (by simpa [Act.put]using h4.step h2 s)))
theorem TO.zvi(hT:zaA P tab){t e:TypeId}{i ie:TyI}{z:T}{x:Operand}{id off len:Nat}{cs:List SV}{H':Heap}(ht:tab.get t=some i)(hk:i.k= .slice e)(he:tab.get e=some ie)(hz:ie.zero=[z])(hag:ie.k.agg=false)
  (hx:env.val x=some (.ms 1 id off len))(hH:H[id]?=some (.cells cs))(hpos:0<len)(hl:off+len≤cs.length)(hH':H.set id (.cells (splice cs off (List.replicate len (.t z))))=H')
  (k:TO false P n all rest env H' K):TO false P n all (⟨none,.call { callee:=.builtin .clear,args:=#[x],argTypes:=#[t] },ty,pos,aft,none⟩::rest) env H K:=
 TO.effV (fun m ac h1 h2 h3=>by
  obtain⟨zz,hz1,hz2,_,hz4⟩:=(hT e ie he).zero
  obtain⟨g1,g0,g2⟩:=zbU (A:=m.A) (w:=m.w) _ _ hz2
  have hzz:zz.cells= #[zz]:=by
   exact zwfu
  have h:=h3.val hx
  generalize hq:ac.eval x=u at h
  cases h with
  | ms _ _ _ _ cap p hp hn hc hh=>
    have hH1:m.H[id]?=some (.cells cs):=by rw[h1];exact hH
    obtain⟨b1,b2,b3⟩:=h2.blk id p _ hp hH1
    have hzr:TRel m.A m.w z zz:=g2 0 z zz (by rw[hz];rfl) (by rw[hzz];rfl)
    obtain⟨s,hm'⟩:=zfX h2 (off:=off) (vs:=List.replicate len (.t z)) (ys:=List.replicate len zz) hp hH1 (by simpa using hl) (by simpa using hpos) (by simp) (fun u hu=>by rw[List.eq_of_mem_replicate hu];exact hz4 hag)
     (fun j c y hc hy=>by
       rw[qb4]at hc hy
       split at hc
       ·rename_i hj
        rw[if_pos hj]at hy
        cases hc;cases hy
        exact .t _ _ hzr
       ·cases hc)
    refine⟨.tuple #[],_,?_,s,hm',by rw[h1];exact hH'⟩
    have hun:=(hT t i ht).slice hk
    have hrun:=Go.Lib.run_clear_slice (P:=P) m.w t e ty zz hun (fun w=>hz1 w) hzz (hz4 hag) p.b (p.lo+off) len cap hpos (fun j hj=>(b2 _ (by omega) (by omega)).1) (fun j hj=>(b2 _ (by omega) (by omega)).2)
    simp[execOp,resolve,invoke,hq,builtin,hrun]) k
theorem TO.zjj(hT:zaA P tab){t e:TypeId}{i ie:TyI}{x z:Operand}{sz id off len b:Nat}{ik:IntKind}(hd:Nat.ble (d+1) n=true)(ht:tab.get t=some i)(hk:i.k= .slice e)(he:tab.get e=some ie)(hsz:ie.size=sz)
  (hx:env.val x=some (.ms sz id off len))(hz:env.val z=some (.t (.v (.int ik (b:Int)))))(h2:b<len)
  (k:TO q P n all rest ((d,.ms sz id (off+b*sz) (len-b))::env) H K):TO q P n all (⟨some d,.slice t x (some z) none none,ty,pos,aft,none⟩::rest) env H K:=
 TO.op hd (fun m ac g1 g2 g3=>by
  have h:=g3.val hx
  generalize hq:ac.eval x=v at h
  cases h with
  | ms _ _ _ _ cap p hp hn hc hh=>
    refine⟨.slice (some ⟨p.b,p.lo+(off+b*sz),none⟩) (len-b) (cap-b),fun w' hw'=>?_,.ms sz id (off+b*sz) (len-b) (cap-b) p hp hn (by omega) ?_⟩
    ·have:=zcB (P:=P) hT ht hk he (some ⟨p.b,p.lo+off,none⟩) len cap (some (ac.eval z)) none b len w' (.inr ⟨ik,by rw[(g3.val hz).v_eq]⟩) (.inl ⟨rfl,rfl⟩) (by omega) (by omega)
     rw[if_neg (by omega),hsz]at this
     simp only[qbb,zbq,qa0]at this
     simp[execOp,hq,this]
    ·have:b*sz+(cap-b)*sz=cap*sz:=by rw[<-qaZ];congr 1;omega
     omega) k
theorem TO.zjK{ops:List Oper}(i sz id len:Nat){cs:List SV}{es:List T}{H':Heap}(hi:env.look i=some (.ms sz id 0 len))(hH:H[id]?=some (.cells cs))(hcl:es.length*sz≤cs.length)(hcs:∀(j:Nat) c,((es.map T.cells).flatten.map SV.t)[j]?=some c->cs[j]?=some c)(hlen:len=es.length)(hsz:∀e∈es,e.cells.length=sz)
  (hpos:Nat.ble 1 sz=true)(hH':H.set id .dead=H')(k:TO false P n all ops ((i,.t (.sl sz es))::env) H' K):TO false P n all ops env H K:=by
 intro φ m a h1 h2 h3 h4
 have hp':=qai hpos
 obtain⟨x,hx1,hx2⟩:=h3.2 i _ hi
 subst hlen
 obtain⟨l1,l2⟩:=zcO es hsz
 cases hx2 with
 | ms _ _ _ _ cap p hp hn hc hh=>
   have hH1:m.H[id]?=some (.cells cs):=by rw[h1];exact hH
   obtain⟨b1,b2,b3⟩:=h2.blk id p _ hp hH1
   have hex:∀j,∃y,j<cs.length->m.w.cell? ⟨p.b,p.lo+j,none⟩=some y/\y.oneCell'=true/\∀c,cs[j]?=some c->SRel m c y:=by
    exact zwbg
   let f:Nat->Value:=fun j=>Classical.choose (hex j)
   have hf:=fun j=>qcB (hex j)
   obtain⟨s,hm'⟩:=zhU h2 (k1:=.dead) (p':=p) (A':=fun b o=>m.A b o\/(b=p.b/\p.lo≤o/\o<p.lo+cs.length)) (w':=m.w) hp hH1 rfl rfl rfl rfl (qaf _) (fun _ _ _ _=>rfl) (fun _ _ _ _ _=>rfl) (fun _ _ _=>rfl) (fun _ _ _ h=>h) (fun _ _ h=>h)
    (fun _ _ h=>.inl h) (fun b o h=>by
      rcases h with h|h
      ·exact .inl h
      ·exact .inr (.inl (by omega))) (fun h=>by cases h) (fun h=>by cases h) (fun o q1 q2=>(b2 o q1 q2).1) ⟨rfl,fun n'=>by simp[tlOf]⟩ (fun _=>trivial)
   have hlt:∀q j,q<es.length->j<sz->q*sz+j<cs.length:=fun q j hq hj=>by
    exact zwea
   have hr:SRel ⟨fun b o=>m.A b o\/(b=p.b/\p.lo≤o/\o<p.lo+cs.length),m.β.set id p,m.H.set id .dead,m.w⟩ (.t (.sl sz es)) (.slice (some ⟨p.b,p.lo+0,none⟩) es.length cap):=by
    refine .t _ _ (.sl sz es p.b (p.lo+0) cap f hc (fun j e he=>hsz e (qat he)) (fun q j hq hj=>.inr ⟨rfl,by omega,by have:=hlt q j hq hj;omega⟩) (fun q j hq hj=>(hf _ (hlt q j hq hj)).1) (fun q j hq hj=>(hf _ (hlt q j hq hj)).2.1) (fun q e j c he hc'=>?_))
    have hq:=(qab.1 he).1
    have hj:=(qab.1 hc').1
    rw[hsz e (qat he)]at hj
    have hcc:cs[q*sz+j]?=some (.t c):=hcs _ _ (by rw[qau,l2 q j e c he hc'];rfl)
    exact zwei
   refine TO.zeT (m':=⟨fun b o=>m.A b o\/(b=p.b/\p.lo≤o/\o<p.lo+cs.length),m.β.set id p,m.H.set id .dead,m.w⟩) s (k φ ⟨fun b o=>m.A b o\/(b=p.b/\p.lo≤o/\o<p.lo+cs.length),m.β.set id p,m.H.set id .dead,m.w⟩ a (by rw[h1];exact hH') hm' ⟨h3.1,fun j v hv=>?_⟩ (h4.step h2 s))
   by_cases hj:i=j
   ·exact zwfx
   ·exact zwfn
end rules
end Go.TL
