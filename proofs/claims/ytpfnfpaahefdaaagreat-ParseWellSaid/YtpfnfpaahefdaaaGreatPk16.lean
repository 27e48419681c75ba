import Derived.Test.YtpfnfpaahefdaaaGreatPk15
set_option linter.all false
namespace Go.TL
open Go
section rules
variable {P:Program}{n:Nat}{env:Env}{H:Heap}{K:TK}{all:Array Oper}{rest:List Oper}{tab:Tab}{q:Bool}
variable {d:Nat}{ty:TypeId}{pos:String}{aft:Array Edge}
theorem TO.zhA(hT:zaA P tab){t xt:TypeId}{i:TyI}{x:Operand}{s:SV}(hd:Nat.ble (d+1) n=true)(hx:env.val x=some (.ifc t s))(ht:tab.get t=some i)(ha:i.k.agg=true)
  (k:TO q P n all rest ((d,.tup [s,.b true])::env) H K):TO q P n all (⟨some d,.typeAssert x xt t true,ty,pos,aft,none⟩::rest) env H K:=
 TO.op hd (fun m ac h1 h2 h3=>by
  have hv:=h3.val hx
  generalize hq:ac.eval x=u at hv
  cases hv with
  | ifc _ _ y hy=>
    obtain⟨dd,ti,z,g1,g2,g3,g4,g5,g6,g7,g8,g9⟩:=(hT t i ht).ex
    refine⟨.tuple #[y,.bool true],fun w' hw'=>?_,?_⟩
    ·cases hk:i.k <;> rw[hk]at ha g3 <;> simp[TK'.agg]at ha <;> cases dd <;> simp[TK'.fits]at g3 <;> simp[execOp,hq,Instr.typeAssert,run_underlying g1]
    ·refine .tup _ _ rfl fun j c z hc hz=>?_
     match j with
     | 0=>simp at hc hz;subst hc hz;exact hy
     | 1=>simp at hc hz;subst hc hz;exact .t _ _ (.v _)
     | j+2=>simp at hc) k
theorem TO.zke(hT:zaA P tab){t xt:TypeId}{i:TyI}{x:Operand}(hd:Nat.ble (d+1) n=true)(hx:env.val x=some (.t (.v .nilIface)))(ht:tab.get t=some i)(ha:i.k.agg=true)
  (k:TO q P n all rest ((d,.tup [.t (.ag i.zero),.b false])::env) H K):TO q P n all (⟨some d,.typeAssert x xt t true,ty,pos,aft,none⟩::rest) env H K:=
 TO.op hd (fun m ac h1 h2 h3=>by
  have hv:=h3.val hx
  generalize hq:ac.eval x=u at hv
  have hu:=hv.v_eq
  subst hu
  obtain⟨dd,ti,z,g1,g2,g3,g4,g5,g6,g7,g8,g9⟩:=(hT t i ht).ex
  obtain⟨cs,rfl⟩:=g8 ha
  obtain⟨z1,z2,z3⟩:=zbW (A:=m.A) (w:=m.w) _ _ g7
  refine⟨.tuple #[.agg cs,.bool false],fun w' hw'=>?_,?_⟩
  ·have hz:(zeroValue t).run P w'= .ok (.agg cs) w':=by simp[zeroValue,typeInfo,g2,g6]
   cases hk:i.k <;> rw[hk]at ha g3 <;> simp[TK'.agg]at ha <;> cases dd <;> simp[TK'.fits]at g3 <;> simp[execOp,hq,Instr.typeAssert,run_underlying g1,hz]
  ·refine .tup _ _ rfl fun j c z hc hz=>?_
   match j with
   | 0=>
     simp at hc hz;subst hc hz
     refine .t _ _ (.ag _ _ (by simpa [Value.cells]using z1.symm) (fun i y hy=>z2 i y (by simpa [Value.cells]using hy)) fun i c y hc hy=>z3 i c y hc (by simpa [Value.cells]using hy))
   | 1=>simp at hc hz;subst hc hz;exact .t _ _ (.v _)
   | j+2=>simp at hc) k
end rules
end Go.TL
namespace Go.Proofs.YtpfnfpaahefdaaaGreat
open Go Go.TL
attribute [local irreducible] TR TO Then zac RetK Sound zaf Kf GG zaY
theorem zgr(n q c:Int)(a b d:SV)(Hr:Heap)(hb:zab (Hr.length+2) Hr=true):
  zbX Tryz.prog 19 [.ref 0 0,.ref 1 0] (.cells [a,b]:: .cells [d]::Hr) (some (zgf n q c)) (fun H3=>H3= .cells [.i n,.i q]:: .cells [.i c]::Hr):=by
 refine zbX.of (tab:=tab) Tryz.func19 (by kernel_rfl) rfl rfl rfl rfl ?_
 repeat' (first|refine wu ?_|exact wkc|intro hc|refine wk2 ?_ ?_|(apply TO.zhA zaa;(iterate 4 exact rfl))|fail)
 refine Then.normal ?_
 repeat' (first|refine wkt ?_|fail)
 refine TR.zoL (envF:=?envF) (HF:=.cells [.i n,.i q]:: .cells [.i c]::Hr) [(.cp [T.i n,T.i q,T.i c] 0,false),(.t (.ag [T.i n,T.i q]),false),(.cp [T.i n,T.i q,T.i c] 2,false),(.i c,false),(.any,true),(.any,true)] [.cells [a,b]:: .cells [d]::Hr,.cells [.i n,.i q]:: .cells [d]::Hr,.cells [.i n,.i q]:: .cells [.i c]::Hr] hmix ?hB ?h0 ?hp ?hF ?hE ?hK
 case hB=>(dsimp only[List.map];decide +kernel)
 case h0=>exact rfl
 case hF=>exact rfl
 case hE=>exact rfl
 case hp=>repeat' (first|refine wu ?_|exact trivial|exact qak rfl rfl|refine qak (fun H env=>?_) ?_|refine qak (fun env=>?_) ?_|fail)
 repeat' (first|refine wu ?_|exact wkc|intro hc|refine wk2 ?_ ?_|fail)
 have ht:(Blk.cells [.i n,.i q]::Blk.cells [.i c]::Hr).take (Blk.cells [a,b]::Blk.cells [d]::Hr).length=Blk.cells [.i n,.i q]::Blk.cells [.i c]::Hr:=by simp
 refine⟨qae _,?_,ht⟩
 show zab _ (List.take _ (Blk.cells [.i n,.i q]::Blk.cells [.i c]::Hr))=true
 rw[ht]
 exact hb
theorem zki(H:Heap)(hb:zab H.length H=true):
  zbX Tryz.prog 19 [.ref 0 0,.ref 1 0] H none (fun H3=>H3=H):=by
 refine zbX.of (tab:=tab) Tryz.func19 (by kernel_rfl) rfl rfl rfl rfl ?_
 repeat' (first|refine wu ?_|exact wkc|intro hc|refine wk2 ?_ ?_|(apply TO.zke zaa;(iterate 4 exact rfl))|fail)
 refine Then.normal ?_
 repeat' (first|refine wu ?_|exact wkc|intro hc|refine wk2 ?_ ?_|fail)
 exact⟨qae _,by rw[qaE (qae _)];exact hb,qaE (qae _)⟩
theorem we3{G Q1 Q2:Prop}{f:FuncId}{cargs:List SV}{v pv:SV}{c:Int}{Hc H1:Heap}(hs:Sound Tryz.prog f cargs Hc (Err c v pv H1))(k1:Q1)(k2:Q2)(h:Sound Tryz.prog f cargs Hc (Err c v pv H1)->Hold Q1->Hold Q2->G:=by
  intro hs k1 k2
  (apply TO.zo7 [2] hs;(iterate 3 exact rfl);exact zqa;exact rfl;exact Hands.one rfl rfl;(iterate 4 exact rfl);exact k1.p;exact k2.p)):G:=h hs ⟨k1⟩ ⟨k2⟩
structure zhx (p:Prog) (w:Nat):Prop where
 es:p.enums.length≤w
 tg:∀u∈p.enums,u.tags.length≤w
 ns:p.nodes.length≤w
 nd:∀n∈p.nodes,(nodT n).w≤w
theorem zeV(p:Prog)(hw:zhx p 1000000000):Pure Tryz.prog 8 [.t (.ag (zpu p))] (.tup [.t (.ag [T.i (zci p).1.1,T.i (zci p).1.2]),.i (zci p).2]):=by
 refine Sound.zcW zaa Tryz.func8 (by kernel_rfl) rfl rfl (gf:=19) (cv:=[.ref 0 0,.ref 1 0]) ?_
 unfold zpu
 refine TD.seq ?_
 repeat' (first|refine wu ?_|fail)
 show TD _ _ (.seq _ _) _ _ _ _ _ _
 refine TD.defer (tz:=0) rfl rfl ?_
 have m1:(p.enums.map enT).length=p.enums.length:=qad _
 have m2:(p.nodes.map nodT).length=p.nodes.length:=qad _
 have b1:=hw.es
 have b2:=hw.ns
 have hen:∀(n q:Int) u,u∈p.enums->LS 21 [.t (.ag [.s u.name,.sl 1 (u.tags.map T.s)])] p.enums n q (zfy u):=fun n q u hu=>ziL p.enums n q u (hw.tg u hu)
 have hno:∀(a b i:Int) u,u∈p.nodes->Sound Tryz.prog 22 [.ref 0 0,.i i,.t (.ag (nodC u))] [zbZ p.enums a b] (Err (zcG p.enums u).2 (.tup []) (zgf i (zcG p.enums u).1 (zcG p.enums u).2) [zbZ p.enums i (-1)]):=fun a b i u hu=>ziX p.enums a b i u (hw.nd u hu)
 have hz:zci p=zci p:=rfl
 conv at hz=>rhs;unfold zci limE
 generalize zci p=z at hz⊢
 refine wk ?_
 repeat' (first|refine wkt ?_|refine wka ?_|refine wk ?_|exact wkc|intro hc|refine wk2 ?_ ?_|(apply TO.zdu [2] (zlQ p.enums (-1) (-1) 3);(iterate 3 exact rfl);exact⟨Le.refl _,Le.refl _,Le.refl _,trivial⟩;exact rfl;exact Hands.one rfl rfl;exact rfl;exact rfl)|refine we3 (zlP p.enums (-1) (-1) 3 (by decide)) ?_ ?_|fail)
 all_goals first
  | (have hzz:z=((-1,-1),3):=by rw[hz];clear hen hno;grind
     subst hzz
     exact⟨_,zgr _ _ _ _ _ _ _ rfl,fun H3 h=>by subst h;exact wkr⟩)
  | skip
 rw[if_neg (by clear hen hno hz;simp;omega)]at hz
 refine TR.zb0 p.enums.length (fun k=>zan zfy (p.enums.take k)=0) (fun k=>[(1,.cp [.sl 2 (p.enums.map enT),zlV p.nodes] 0),(2,.ref 0 0),(3,.ref 1 0),(4,.ref 2 0),(28,.t (.sl 2 (p.enums.map enT))),(29,.i (p.enums.map enT).length),(30,.i k)])
  (fun k=>[.cells [.i 0,.i 0],.cells [.i 0],zbZ p.enums (-1) (-1)]) rfl (fun k hlt ha=>?_) (fun ha=>?_)
 ·have hx:(p.enums.map enT)[k]?=some (.ag [.s p.enums[k].name,.sl 1 (p.enums[k].tags.map T.s)]):=zc0 enT hlt
  have g1:=za8 (f:=zfy) hlt ha
  have g2:=zaS (f:=zfy) hlt ha
  have hs:=hen (-1) (-1) _ (qaG hlt)
  generalize p.enums[k]=u at*
  clear hen hno
  repeat' (first|refine wkt ?_|refine wka ?_|refine wk ?_|exact wkc|intro hc|refine wk2 ?_ ?_|refine we3 hs ?_ ?_|fail)
  ·exact zaf.zcq hlt (g2 hc)
  ·rw[if_pos (by rw[g1 hc];exact hc),g1 hc]at hz
   exact zwcz
 have e1:=zaX ha
 rw[if_neg (by simp[e1])]at hz
 clear hen
 refine wk ?_
 repeat' (first|refine wu ?_|exact wkc|intro hc|refine wk2 ?_ ?_|fail)
 refine TR.zb0 p.nodes.length (fun k=>zan (fun n=>(zcG p.enums n).2) (p.nodes.take k)=0) (fun k=>[(2,.ref 0 0),(3,.ref 1 0),(4,.ref 2 0),(39,.t (zlV p.nodes)),(40,.i (p.nodes.map nodT).length),(41,.i k)])
  (fun k=>[.cells [.i 0,.i 0],.cells [.i 0],zbZ p.enums ((k:Int)-1) (-1)]) rfl (fun k hlt ha=>?_) (fun ha=>?_)
 ·have hx:=zo2 hlt
  have g1:=za8 (f:=fun n=>(zcG p.enums n).2) hlt ha
  have g2:=zaS (f:=fun n=>(zcG p.enums n).2) hlt ha
  have g3:=zhM (f:=fun n=>(zcG p.enums n).2) hlt ha
  have hs:=hno ((k:Int)-1) (-1) k _ (qaG hlt)
  have hat:p.nodes[k]?=some p.nodes[k]:=qab hlt
  generalize p.nodes[k]=u at*
  clear hno
  unfold nodC at hx hs
  repeat' (first|refine wkt ?_|refine wka ?_|refine wk ?_|exact wkc|intro hc|refine wk2 ?_ ?_|refine we3 hs ?_ ?_|fail)
  ·refine zaf.zcq hlt (g2 hc) ?_ (by rw[show((k+1:Nat):Int)-1=k from by omega];rfl)
   repeat' (first|exact trivial|refine qak rfl ?_|fail)
  ·rw[if_neg (by rw[g1 hc];exact hc),g3 hc,g1 hc]at hz
   simp only[Int.toNat_natCast,hat,qaY,qbO]at hz
   exact zwcz
 have e2:=zaX ha
 rw[if_pos e2]at hz
 subst hz
 refine wk ?_
 repeat' (first|refine wu ?_|exact wkc|intro hc|refine wk2 ?_ ?_|fail)
 exact⟨_,zki _ rfl,fun H3 h=>by subst h;exact wkr⟩
def blank(c:Int):Bool:=c == 32 || c == 9 || c == 10 || c == 13
set_option maxHeartbeats 400000 in
theorem ziA (c:Int):Pure Tryz.prog 50 [u8 c] (.b (blank c)):=by
 refine so Tryz.func50 ?_
 repeat' (first
  | (apply TO.move;exact rfl;exact rfl)
  | (apply TO.assign;exact rfl;exact rfl)
  | (apply TO.want;exact rfl)
  | refine zql ?_
  | refine zqc ?_
  | (apply TO.eqs;(iterate 3 exact rfl))
  | (apply TO.nes;(iterate 3 exact rfl))
  | (apply TO.cmp;(iterate 4 exact rfl))
  | (intro hc;exact absurd hc (by decide))
  | (intro hc;exfalso;simp only[decide_eq_true_eq,decide_eq_false_iff_not,beq_iff_eq,beq_eq_false_iff_ne,bne_iff_ne,bne_eq_false_iff_eq,ne_eq,qap,not_true_eq_false]at hc;done)
  | (intro hc;exfalso;(first|simp only[decide_eq_true_eq,decide_eq_false_iff_not,beq_iff_eq,beq_eq_false_iff_ne,bne_iff_ne,bne_eq_false_iff_eq,ne_eq,qap,not_true_eq_false]at hc|skip);first|omega|(simp only[qai,qac]at *;omega))
  | intro hc
  | (apply TO.pick;(iterate 3 exact rfl))
  | (apply TO.pass;exact rfl;exact rfl)
  | (apply TO.zcr;exact rfl)
  | (apply TO.load zaa;(iterate 5 exact rfl))
  | (apply TO.zaN zaa;(iterate 6 exact rfl))
  | (apply TO.fieldAddr zaa;(iterate 5 exact rfl);decide;exact rfl)
  | (apply TO.zam zaa;(iterate 5 exact rfl);decide;exact rfl)
  | (apply TO.nilCheck;(iterate 3 exact rfl))
  | (apply TO.zaE zaa;(iterate 5 exact rfl);assumption)
  | (apply TO.zax zaa;(iterate 5 exact rfl);decide;exact rfl)
  | (apply TO.za0 zaa;(iterate 4 exact rfl))
  | (apply TO.zbt zaa;(iterate 7 exact rfl))
  | refine zqg ?_
  | (apply TO.extract;(iterate 3 exact rfl))
  | refine TO.nil ?_
  | refine TR.seq ?_
  | refine TR.region ?_
  | (apply TR.zco;exact rfl)
  | (apply TR.zcn;exact rfl)
  | refine Then.normal ?_
  | refine TR.block ?_
  | refine TR.skip ?_
  | (apply TR.za1 hmix;kernel_rfl;exact rfl)
  | refine TR.exit ?_
  | refine TR.ret ?_
  | refine Then.exit ?_
  | refine Then.ret ?_
  | refine zaf.exit ?_
  | refine zaf.ret ?_
  | refine zac.normal ?_
  | refine zac.ret ?_
  | (apply zac.same;exact rfl)
  | (apply zac.other;exact rfl)
  | (apply TO.zaH;(iterate 3 exact rfl);omega;omega)
  | (apply TO.mul64;(iterate 3 exact rfl);omega;omega)
  | (apply TO.convert_u8;exact rfl;kernel_rfl;kernel_rfl;exact rfl)
  | (apply TO.bin;(iterate 4 exact rfl))
  | (apply TO.zbu zaa;(iterate 6 exact rfl);omega;omega)
  | (apply TO.zaL zaa;(iterate 5 exact rfl);omega)
  | (apply TO.zaO zaa;(iterate 5 exact rfl);omega)
  | (apply TO.not;exact rfl;exact rfl)
  | (apply TO.zau;exact rfl;exact rfl)
  | (apply TO.zaQ zaa;(iterate 4 exact rfl);exact leB)
  | (apply TO.zap zaa;(iterate 5 exact rfl);exact leB)
  | (apply TO.zbs zaa;(iterate 4 exact rfl))
  | (apply TO.zbr zaa;(iterate 7 exact rfl))
  | (apply TO.build zaa;(iterate 6 exact rfl))
  | refine zqn ?_
  | refine zqm ?_
  | refine zqe ?_
  | refine zqj ?_
  | refine zqb ?_
  | (apply TO.eqb;(iterate 3 exact rfl);kernel_rfl)
  | (apply TO.neb;(iterate 3 exact rfl);kernel_rfl)
  | (apply TO.zaC (j:=0) zaa;(iterate 10 exact rfl))
  | (apply TO.makeFunc;exact rfl;exact rfl)
  | (apply TO.zak zaa;(iterate 5 exact rfl);decide;exact rfl)
  | (apply TO.eq_nil_ptr zaa;(iterate 5 exact rfl))
  | (apply TO.eq_nil_nil zaa;(iterate 4 exact rfl))
  | (apply TO.ne_nil_ptr zaa;(iterate 5 exact rfl))
  | (apply TO.ne_nil_nil zaa;(iterate 4 exact rfl))
  | refine zqi ?_
  | refine zqk ?_
  | (apply TO.ssl_hi zaa;(iterate 8 exact rfl);omega))
 all_goals refine RetK.pure rfl ?_ rfl
 all_goals exact Le.of_eq (by simp_all [blank,pack])
def zaq(p:Int->Bool):Str->Str
 | []=>[]
 | c::r=>if p c.toNat then c::zaq p r else[]
theorem zb3(p:Int->Bool):∀l,(zaq p l).length≤l.length
 | []=>qae _
 | c::r=>by unfold zaq;split <;> simp;exact zb3 p r
theorem zdk(p:Int->Bool):∀l,zaq p l=l.take (zaq p l).length
 | []=>rfl
 | c::r=>by
   unfold zaq;split
   ·simp only[qac,qbu];rw[<-zdk p r]
   ·rfl
abbrev scanner (s:Str)(k:Nat):Heap:=[.cells [.s s,.i k]]
set_option maxHeartbeats 1000000 in
theorem zda (fid:FuncId) (p:Int->Bool) (hp:∀c,Pure Tryz.prog fid [u8 c] (.b (p c))) (s:Str) (hs:s.length≤1000000) (i:Nat) (hi:i≤s.length):
  Sound Tryz.prog 49 [.ref 0 0,.fn fid []] (scanner s i) (fun r H'=>r= .ret (.s (zaq p (s.drop i)))/\H'=scanner s (i+(zaq p (s.drop i)).length)):=by
 refine so Tryz.func49 ?_
 repeat' (first
  | (apply TO.move;exact rfl;exact rfl)
  | (apply TO.assign;exact rfl;exact rfl)
  | (apply TO.want;exact rfl)
  | refine zql ?_
  | refine zqc ?_
  | (apply TO.eqs;(iterate 3 exact rfl))
  | (apply TO.nes;(iterate 3 exact rfl))
  | (apply TO.cmp;(iterate 4 exact rfl))
  | (intro hc;exact absurd hc (by decide))
  | (intro hc;exfalso;simp only[decide_eq_true_eq,decide_eq_false_iff_not,beq_iff_eq,beq_eq_false_iff_ne,bne_iff_ne,bne_eq_false_iff_eq,ne_eq,qap,not_true_eq_false]at hc;done)
  | (intro hc;exfalso;(first|simp only[decide_eq_true_eq,decide_eq_false_iff_not,beq_iff_eq,beq_eq_false_iff_ne,bne_iff_ne,bne_eq_false_iff_eq,ne_eq,qap,not_true_eq_false]at hc|skip);first|omega|(simp only[qai,qac]at *;omega))
  | intro hc
  | (apply TO.pick;(iterate 3 exact rfl))
  | (apply TO.pass;exact rfl;exact rfl)
  | (apply TO.zcr;exact rfl)
  | (apply TO.load zaa;(iterate 5 exact rfl))
  | (apply TO.zaN zaa;(iterate 6 exact rfl))
  | (apply TO.fieldAddr zaa;(iterate 5 exact rfl);decide;exact rfl)
  | (apply TO.zam zaa;(iterate 5 exact rfl);decide;exact rfl)
  | (apply TO.nilCheck;(iterate 3 exact rfl))
  | (apply TO.zaE zaa;(iterate 5 exact rfl);assumption)
  | (apply TO.zax zaa;(iterate 5 exact rfl);decide;exact rfl)
  | (apply TO.za0 zaa;(iterate 4 exact rfl))
  | (apply TO.zbt zaa;(iterate 7 exact rfl))
  | refine zqg ?_
  | (apply TO.extract;(iterate 3 exact rfl))
  | refine TO.nil ?_
  | refine TR.seq ?_
  | refine TR.region ?_
  | (apply TR.zco;exact rfl)
  | (apply TR.zcn;exact rfl)
  | refine Then.normal ?_
  | refine TR.block ?_
  | refine TR.skip ?_
  | (apply TR.za1 hmix;kernel_rfl;exact rfl)
  | refine TR.exit ?_
  | refine TR.ret ?_
  | refine Then.exit ?_
  | refine Then.ret ?_
  | refine zaf.exit ?_
  | refine zaf.ret ?_
  | refine zac.normal ?_
  | refine zac.ret ?_
  | (apply zac.same;exact rfl)
  | (apply zac.other;exact rfl)
  | (apply TO.zaH;(iterate 3 exact rfl);omega;omega)
  | (apply TO.mul64;(iterate 3 exact rfl);omega;omega)
  | (apply TO.convert_u8;exact rfl;kernel_rfl;kernel_rfl;exact rfl)
  | (apply TO.bin;(iterate 4 exact rfl))
  | (apply TO.zbu zaa;(iterate 6 exact rfl);omega;omega)
  | (apply TO.zaL zaa;(iterate 5 exact rfl);omega)
  | (apply TO.zaO zaa;(iterate 5 exact rfl);omega)
  | (apply TO.not;exact rfl;exact rfl)
  | (apply TO.zau;exact rfl;exact rfl)
  | (apply TO.zaQ zaa;(iterate 4 exact rfl);exact leB)
  | (apply TO.zap zaa;(iterate 5 exact rfl);exact leB)
  | (apply TO.zbs zaa;(iterate 4 exact rfl))
  | (apply TO.zbr zaa;(iterate 7 exact rfl))
  | (apply TO.build zaa;(iterate 6 exact rfl))
  | refine zqn ?_
  | refine zqm ?_
  | refine zqe ?_
  | refine zqj ?_
  | refine zqb ?_
  | (apply TO.eqb;(iterate 3 exact rfl);kernel_rfl)
  | (apply TO.neb;(iterate 3 exact rfl);kernel_rfl)
  | (apply TO.zaC (j:=0) zaa;(iterate 10 exact rfl))
  | (apply TO.makeFunc;exact rfl;exact rfl)
  | (apply TO.zak zaa;(iterate 5 exact rfl);decide;exact rfl)
  | (apply TO.eq_nil_ptr zaa;(iterate 5 exact rfl))
  | (apply TO.eq_nil_nil zaa;(iterate 4 exact rfl))
  | (apply TO.ne_nil_ptr zaa;(iterate 5 exact rfl))
  | (apply TO.ne_nil_nil zaa;(iterate 4 exact rfl))
  | refine zqi ?_
  | refine zqk ?_
  | (apply TO.ssl_hi zaa;(iterate 8 exact rfl);omega))
 refine TR.za3 (ι:=Nat) (fun k=>i≤k/\k≤s.length/\zaq p (s.drop i)=(s.take k).drop i++zaq p (s.drop k)) (fun k=>s.length-k) (fun k=>[(0,.ref 0 0),(1,.fn fid []),(5,.i i)]) (fun k=>scanner s k) i ⟨qae _,hi,?_⟩ ⟨rfl,rfl,rfl,trivial⟩ rfl ?_
 ·have h0:(s.take i).drop i=[]:=qbw (by simp;omega)
  rw[h0];rfl
 rintro k ⟨h1,h2,h3⟩
 by_cases hlt:k<s.length
 ·have hx:=qab hlt
  repeat' (first
   | (apply TO.move;exact rfl;exact rfl)
   | (apply TO.assign;exact rfl;exact rfl)
   | (apply TO.want;exact rfl)
   | refine zql ?_
   | refine zqc ?_
   | (apply TO.eqs;(iterate 3 exact rfl))
   | (apply TO.nes;(iterate 3 exact rfl))
   | (apply TO.cmp;(iterate 4 exact rfl))
   | (intro hc;exact absurd hc (by decide))
   | (intro hc;exfalso;simp only[decide_eq_true_eq,decide_eq_false_iff_not,beq_iff_eq,beq_eq_false_iff_ne,bne_iff_ne,bne_eq_false_iff_eq,ne_eq,qap,not_true_eq_false]at hc;done)
   | (intro hc;exfalso;(first|simp only[decide_eq_true_eq,decide_eq_false_iff_not,beq_iff_eq,beq_eq_false_iff_ne,bne_iff_ne,bne_eq_false_iff_eq,ne_eq,qap,not_true_eq_false]at hc|skip);first|omega|(simp only[qai,qac]at *;omega))
   | intro hc
   | (apply TO.pick;(iterate 3 exact rfl))
   | (apply TO.pass;exact rfl;exact rfl)
   | (apply TO.zcr;exact rfl)
   | (apply TO.load zaa;(iterate 5 exact rfl))
   | (apply TO.zaN zaa;(iterate 6 exact rfl))
   | (apply TO.fieldAddr zaa;(iterate 5 exact rfl);decide;exact rfl)
   | (apply TO.zam zaa;(iterate 5 exact rfl);decide;exact rfl)
   | (apply TO.nilCheck;(iterate 3 exact rfl))
   | (apply TO.zaE zaa;(iterate 5 exact rfl);assumption)
   | (apply TO.zax zaa;(iterate 5 exact rfl);decide;exact rfl)
   | (apply TO.za0 zaa;(iterate 4 exact rfl))
   | (apply TO.zbt zaa;(iterate 7 exact rfl))
   | refine zqg ?_
   | (apply TO.extract;(iterate 3 exact rfl))
   | (apply TO.zdq (hp _);(iterate 3 exact rfl);exact⟨.t _,trivial⟩)
   | refine TO.nil ?_
   | refine TR.seq ?_
   | refine TR.region ?_
   | (apply TR.zco;exact rfl)
   | (apply TR.zcn;exact rfl)
   | refine Then.normal ?_
   | refine TR.block ?_
   | refine TR.skip ?_
   | (apply TR.za1 hmix;kernel_rfl;exact rfl)
   | refine TR.exit ?_
   | refine TR.ret ?_
   | refine Then.exit ?_
   | refine Then.ret ?_
   | refine zaf.exit ?_
   | refine zaf.ret ?_
   | refine zac.normal ?_
   | refine zac.ret ?_
   | (apply zac.same;exact rfl)
   | (apply zac.other;exact rfl)
   | (apply TO.zaH;(iterate 3 exact rfl);omega;omega)
   | (apply TO.mul64;(iterate 3 exact rfl);omega;omega)
   | (apply TO.convert_u8;exact rfl;kernel_rfl;kernel_rfl;exact rfl)
   | (apply TO.bin;(iterate 4 exact rfl))
   | (apply TO.zbu zaa;(iterate 6 exact rfl);omega;omega)
   | (apply TO.zaL zaa;(iterate 5 exact rfl);omega)
   | (apply TO.zaO zaa;(iterate 5 exact rfl);omega)
   | (apply TO.not;exact rfl;exact rfl)
   | (apply TO.zau;exact rfl;exact rfl)
   | (apply TO.zaQ zaa;(iterate 4 exact rfl);exact leB)
   | (apply TO.zap zaa;(iterate 5 exact rfl);exact leB)
   | (apply TO.zbs zaa;(iterate 4 exact rfl))
   | (apply TO.zbr zaa;(iterate 7 exact rfl))
   | (apply TO.build zaa;(iterate 6 exact rfl))
   | refine zqn ?_
   | refine zqm ?_
   | refine zqe ?_
   | refine zqj ?_
   | refine zqb ?_
   | (apply TO.eqb;(iterate 3 exact rfl);kernel_rfl)
   | (apply TO.neb;(iterate 3 exact rfl);kernel_rfl)
   | (apply TO.zaC (j:=0) zaa;(iterate 10 exact rfl))
   | (apply TO.makeFunc;exact rfl;exact rfl)
   | (apply TO.zak zaa;(iterate 5 exact rfl);decide;exact rfl)
   | (apply TO.eq_nil_ptr zaa;(iterate 5 exact rfl))
   | (apply TO.eq_nil_nil zaa;(iterate 4 exact rfl))
   | (apply TO.ne_nil_ptr zaa;(iterate 5 exact rfl))
   | (apply TO.ne_nil_nil zaa;(iterate 4 exact rfl))
   | refine zqi ?_
   | refine zqk ?_
   | (apply TO.ssl_hi zaa;(iterate 8 exact rfl);omega))
  ·refine zaf.next (k+1) ⟨by omega,hlt,?_⟩ (by omega) ⟨rfl,rfl,rfl,trivial⟩ rfl
   rw[h3,qaF hlt,qaH hlt,List.drop_append_of_le_length (by simp;omega)]
   simp[zaq,hc]
  ·have:zaq p (s.drop k)=[]:=by rw[qaF hlt];simp[zaq,hc]
   exact zwbf
 ·repeat' (first
   | (apply TO.move;exact rfl;exact rfl)
   | (apply TO.assign;exact rfl;exact rfl)
   | (apply TO.want;exact rfl)
   | refine zql ?_
   | refine zqc ?_
   | (apply TO.eqs;(iterate 3 exact rfl))
   | (apply TO.nes;(iterate 3 exact rfl))
   | (apply TO.cmp;(iterate 4 exact rfl))
   | (intro hc;exact absurd hc (by decide))
   | (intro hc;exfalso;simp only[decide_eq_true_eq,decide_eq_false_iff_not,beq_iff_eq,beq_eq_false_iff_ne,bne_iff_ne,bne_eq_false_iff_eq,ne_eq,qap,not_true_eq_false]at hc;done)
   | (intro hc;exfalso;(first|simp only[decide_eq_true_eq,decide_eq_false_iff_not,beq_iff_eq,beq_eq_false_iff_ne,bne_iff_ne,bne_eq_false_iff_eq,ne_eq,qap,not_true_eq_false]at hc|skip);first|omega|(simp only[qai,qac]at *;omega))
   | intro hc
   | (apply TO.pick;(iterate 3 exact rfl))
   | (apply TO.pass;exact rfl;exact rfl)
   | (apply TO.zcr;exact rfl)
   | (apply TO.load zaa;(iterate 5 exact rfl))
   | (apply TO.zaN zaa;(iterate 6 exact rfl))
   | (apply TO.fieldAddr zaa;(iterate 5 exact rfl);decide;exact rfl)
   | (apply TO.zam zaa;(iterate 5 exact rfl);decide;exact rfl)
   | (apply TO.nilCheck;(iterate 3 exact rfl))
   | (apply TO.zaE zaa;(iterate 5 exact rfl);assumption)
   | (apply TO.zax zaa;(iterate 5 exact rfl);decide;exact rfl)
   | (apply TO.za0 zaa;(iterate 4 exact rfl))
   | (apply TO.zbt zaa;(iterate 7 exact rfl))
   | refine zqg ?_
   | (apply TO.extract;(iterate 3 exact rfl))
   | (apply TO.zdq (hp _);(iterate 3 exact rfl);exact⟨.t _,trivial⟩)
   | refine TO.nil ?_
   | refine TR.seq ?_
   | refine TR.region ?_
   | (apply TR.zco;exact rfl)
   | (apply TR.zcn;exact rfl)
   | refine Then.normal ?_
   | refine TR.block ?_
   | refine TR.skip ?_
   | (apply TR.za1 hmix;kernel_rfl;exact rfl)
   | refine TR.exit ?_
   | refine TR.ret ?_
   | refine Then.exit ?_
   | refine Then.ret ?_
   | refine zaf.exit ?_
   | refine zaf.ret ?_
   | refine zac.normal ?_
   | refine zac.ret ?_
   | (apply zac.same;exact rfl)
   | (apply zac.other;exact rfl)
   | (apply TO.zaH;(iterate 3 exact rfl);omega;omega)
   | (apply TO.mul64;(iterate 3 exact rfl);omega;omega)
   | (apply TO.convert_u8;exact rfl;kernel_rfl;kernel_rfl;exact rfl)
   | (apply TO.bin;(iterate 4 exact rfl))
   | (apply TO.zbu zaa;(iterate 6 exact rfl);omega;omega)
   | (apply TO.zaL zaa;(iterate 5 exact rfl);omega)
   | (apply TO.zaO zaa;(iterate 5 exact rfl);omega)
   | (apply TO.not;exact rfl;exact rfl)
   | (apply TO.zau;exact rfl;exact rfl)
   | (apply TO.zaQ zaa;(iterate 4 exact rfl);exact leB)
   | (apply TO.zap zaa;(iterate 5 exact rfl);exact leB)
   | (apply TO.zbs zaa;(iterate 4 exact rfl))
   | (apply TO.zbr zaa;(iterate 7 exact rfl))
   | (apply TO.build zaa;(iterate 6 exact rfl))
   | refine zqn ?_
   | refine zqm ?_
   | refine zqe ?_
   | refine zqj ?_
   | refine zqb ?_
   | (apply TO.eqb;(iterate 3 exact rfl);kernel_rfl)
   | (apply TO.neb;(iterate 3 exact rfl);kernel_rfl)
   | (apply TO.zaC (j:=0) zaa;(iterate 10 exact rfl))
   | (apply TO.makeFunc;exact rfl;exact rfl)
   | (apply TO.zak zaa;(iterate 5 exact rfl);decide;exact rfl)
   | (apply TO.eq_nil_ptr zaa;(iterate 5 exact rfl))
   | (apply TO.eq_nil_nil zaa;(iterate 4 exact rfl))
   | (apply TO.ne_nil_ptr zaa;(iterate 5 exact rfl))
   | (apply TO.ne_nil_nil zaa;(iterate 4 exact rfl))
   | refine zqi ?_
   | refine zqk ?_
   | (apply TO.ssl_hi zaa;(iterate 8 exact rfl);omega))
  have:zaq p (s.drop k)=[]:=by rw[qbw (by omega)];rfl
  exact zwbf
def zbh(a b:Str):Bool:=decide (b.length≤a.length) && a.take b.length == b
set_option maxHeartbeats 400000 in
theorem zej (a b:Str):Pure Tryz.prog 75 [.s a,.s b] (.b (zbh a b)):=by
 refine so Tryz.func75 ?_
 by_cases h:b.length≤a.length
 ·repeat' (first
   | (apply TO.move;exact rfl;exact rfl)
   | (apply TO.assign;exact rfl;exact rfl)
   | (apply TO.want;exact rfl)
   | refine zql ?_
   | refine zqc ?_
   | (apply TO.eqs;(iterate 3 exact rfl))
   | (apply TO.nes;(iterate 3 exact rfl))
   | (apply TO.cmp;(iterate 4 exact rfl))
   | (intro hc;exact absurd hc (by decide))
   | (intro hc;exfalso;simp only[decide_eq_true_eq,decide_eq_false_iff_not,beq_iff_eq,beq_eq_false_iff_ne,bne_iff_ne,bne_eq_false_iff_eq,ne_eq,qap,not_true_eq_false]at hc;done)
   | (intro hc;exfalso;(first|simp only[decide_eq_true_eq,decide_eq_false_iff_not,beq_iff_eq,beq_eq_false_iff_ne,bne_iff_ne,bne_eq_false_iff_eq,ne_eq,qap,not_true_eq_false]at hc|skip);first|omega|(simp only[qai,qac]at *;omega))
   | intro hc
   | (apply TO.pick;(iterate 3 exact rfl))
   | (apply TO.pass;exact rfl;exact rfl)
   | (apply TO.zcr;exact rfl)
   | (apply TO.load zaa;(iterate 5 exact rfl))
   | (apply TO.zaN zaa;(iterate 6 exact rfl))
   | (apply TO.fieldAddr zaa;(iterate 5 exact rfl);decide;exact rfl)
   | (apply TO.zam zaa;(iterate 5 exact rfl);decide;exact rfl)
   | (apply TO.nilCheck;(iterate 3 exact rfl))
   | (apply TO.zaE zaa;(iterate 5 exact rfl);assumption)
   | (apply TO.zax zaa;(iterate 5 exact rfl);decide;exact rfl)
   | (apply TO.za0 zaa;(iterate 4 exact rfl))
   | (apply TO.zbt zaa;(iterate 7 exact rfl))
   | refine zqg ?_
   | (apply TO.extract;(iterate 3 exact rfl))
   | refine TO.nil ?_
   | refine TR.seq ?_
   | refine TR.region ?_
   | (apply TR.zco;exact rfl)
   | (apply TR.zcn;exact rfl)
   | refine Then.normal ?_
   | refine TR.block ?_
   | refine TR.skip ?_
   | (apply TR.za1 hmix;kernel_rfl;exact rfl)
   | refine TR.exit ?_
   | refine TR.ret ?_
   | refine Then.exit ?_
   | refine Then.ret ?_
   | refine zaf.exit ?_
   | refine zaf.ret ?_
   | refine zac.normal ?_
   | refine zac.ret ?_
   | (apply zac.same;exact rfl)
   | (apply zac.other;exact rfl)
   | (apply TO.zaH;(iterate 3 exact rfl);omega;omega)
   | (apply TO.mul64;(iterate 3 exact rfl);omega;omega)
   | (apply TO.convert_u8;exact rfl;kernel_rfl;kernel_rfl;exact rfl)
   | (apply TO.bin;(iterate 4 exact rfl))
   | (apply TO.zbu zaa;(iterate 6 exact rfl);omega;omega)
   | (apply TO.zaL zaa;(iterate 5 exact rfl);omega)
   | (apply TO.zaO zaa;(iterate 5 exact rfl);omega)
   | (apply TO.not;exact rfl;exact rfl)
   | (apply TO.zau;exact rfl;exact rfl)
   | (apply TO.zaQ zaa;(iterate 4 exact rfl);exact leB)
   | (apply TO.zap zaa;(iterate 5 exact rfl);exact leB)
   | (apply TO.zbs zaa;(iterate 4 exact rfl))
   | (apply TO.zbr zaa;(iterate 7 exact rfl))
   | (apply TO.build zaa;(iterate 6 exact rfl))
   | refine zqn ?_
   | refine zqm ?_
   | refine zqe ?_
   | refine zqj ?_
   | refine zqb ?_
   | (apply TO.eqb;(iterate 3 exact rfl);kernel_rfl)
   | (apply TO.neb;(iterate 3 exact rfl);kernel_rfl)
   | (apply TO.zaC (j:=0) zaa;(iterate 10 exact rfl))
   | (apply TO.makeFunc;exact rfl;exact rfl)
   | (apply TO.zak zaa;(iterate 5 exact rfl);decide;exact rfl)
   | (apply TO.eq_nil_ptr zaa;(iterate 5 exact rfl))
   | (apply TO.eq_nil_nil zaa;(iterate 4 exact rfl))
   | (apply TO.ne_nil_ptr zaa;(iterate 5 exact rfl))
   | (apply TO.ne_nil_nil zaa;(iterate 4 exact rfl))
   | refine zqi ?_
   | refine zqk ?_
   | (apply TO.ssl_hi zaa;(iterate 8 exact rfl);omega))
  all_goals exact zwds
 ·repeat' (first
   | (apply TO.move;exact rfl;exact rfl)
   | (apply TO.assign;exact rfl;exact rfl)
   | (apply TO.want;exact rfl)
   | refine zql ?_
   | refine zqc ?_
   | (apply TO.eqs;(iterate 3 exact rfl))
   | (apply TO.nes;(iterate 3 exact rfl))
   | (apply TO.cmp;(iterate 4 exact rfl))
   | (intro hc;exact absurd hc (by decide))
   | (intro hc;exfalso;simp only[decide_eq_true_eq,decide_eq_false_iff_not,beq_iff_eq,beq_eq_false_iff_ne,bne_iff_ne,bne_eq_false_iff_eq,ne_eq,qap,not_true_eq_false]at hc;done)
   | (intro hc;exfalso;(first|simp only[decide_eq_true_eq,decide_eq_false_iff_not,beq_iff_eq,beq_eq_false_iff_ne,bne_iff_ne,bne_eq_false_iff_eq,ne_eq,qap,not_true_eq_false]at hc|skip);first|omega|(simp only[qai,qac]at *;omega))
   | intro hc
   | (apply TO.pick;(iterate 3 exact rfl))
   | (apply TO.pass;exact rfl;exact rfl)
   | (apply TO.zcr;exact rfl)
   | (apply TO.load zaa;(iterate 5 exact rfl))
   | (apply TO.zaN zaa;(iterate 6 exact rfl))
   | (apply TO.fieldAddr zaa;(iterate 5 exact rfl);decide;exact rfl)
   | (apply TO.zam zaa;(iterate 5 exact rfl);decide;exact rfl)
   | (apply TO.nilCheck;(iterate 3 exact rfl))
   | (apply TO.zaE zaa;(iterate 5 exact rfl);assumption)
   | (apply TO.zax zaa;(iterate 5 exact rfl);decide;exact rfl)
   | (apply TO.za0 zaa;(iterate 4 exact rfl))
   | (apply TO.zbt zaa;(iterate 7 exact rfl))
   | refine zqg ?_
   | (apply TO.extract;(iterate 3 exact rfl))
   | refine TO.nil ?_
   | refine TR.seq ?_
   | refine TR.region ?_
   | (apply TR.zco;exact rfl)
   | (apply TR.zcn;exact rfl)
   | refine Then.normal ?_
   | refine TR.block ?_
   | refine TR.skip ?_
   | (apply TR.za1 hmix;kernel_rfl;exact rfl)
   | refine TR.exit ?_
   | refine TR.ret ?_
   | refine Then.exit ?_
   | refine Then.ret ?_
   | refine zaf.exit ?_
   | refine zaf.ret ?_
   | refine zac.normal ?_
   | refine zac.ret ?_
   | (apply zac.same;exact rfl)
   | (apply zac.other;exact rfl)
   | (apply TO.zaH;(iterate 3 exact rfl);omega;omega)
   | (apply TO.mul64;(iterate 3 exact rfl);omega;omega)
   | (apply TO.convert_u8;exact rfl;kernel_rfl;kernel_rfl;exact rfl)
   | (apply TO.bin;(iterate 4 exact rfl))
   | (apply TO.zbu zaa;(iterate 6 exact rfl);omega;omega)
   | (apply TO.zaL zaa;(iterate 5 exact rfl);omega)
   | (apply TO.zaO zaa;(iterate 5 exact rfl);omega)
   | (apply TO.not;exact rfl;exact rfl)
   | (apply TO.zau;exact rfl;exact rfl)
   | (apply TO.zaQ zaa;(iterate 4 exact rfl);exact leB)
   | (apply TO.zap zaa;(iterate 5 exact rfl);exact leB)
   | (apply TO.zbs zaa;(iterate 4 exact rfl))
   | (apply TO.zbr zaa;(iterate 7 exact rfl))
   | (apply TO.build zaa;(iterate 6 exact rfl))
   | refine zqn ?_
   | refine zqm ?_
   | refine zqe ?_
   | refine zqj ?_
   | refine zqb ?_
   | (apply TO.eqb;(iterate 3 exact rfl);kernel_rfl)
   | (apply TO.neb;(iterate 3 exact rfl);kernel_rfl)
   | (apply TO.zaC (j:=0) zaa;(iterate 10 exact rfl))
   | (apply TO.makeFunc;exact rfl;exact rfl)
   | (apply TO.zak zaa;(iterate 5 exact rfl);decide;exact rfl)
   | (apply TO.eq_nil_ptr zaa;(iterate 5 exact rfl))
   | (apply TO.eq_nil_nil zaa;(iterate 4 exact rfl))
   | (apply TO.ne_nil_ptr zaa;(iterate 5 exact rfl))
   | (apply TO.ne_nil_nil zaa;(iterate 4 exact rfl))
   | refine zqi ?_
   | refine zqk ?_
   | (apply TO.ssl_hi zaa;(iterate 8 exact rfl);omega))
  all_goals exact zwds
set_option maxHeartbeats 400000 in
theorem zdz (a b:Str):Pure Tryz.prog 51 [.s a,.s b] (.b (zbh a b)):=by
 refine so Tryz.func51 ?_
 repeat' (first
  | (apply TO.move;exact rfl;exact rfl)
  | (apply TO.assign;exact rfl;exact rfl)
  | (apply TO.want;exact rfl)
  | refine zql ?_
  | refine zqc ?_
  | (apply TO.eqs;(iterate 3 exact rfl))
  | (apply TO.nes;(iterate 3 exact rfl))
  | (apply TO.cmp;(iterate 4 exact rfl))
  | (intro hc;exact absurd hc (by decide))
  | (intro hc;exfalso;simp only[decide_eq_true_eq,decide_eq_false_iff_not,beq_iff_eq,beq_eq_false_iff_ne,bne_iff_ne,bne_eq_false_iff_eq,ne_eq,qap,not_true_eq_false]at hc;done)
  | (intro hc;exfalso;(first|simp only[decide_eq_true_eq,decide_eq_false_iff_not,beq_iff_eq,beq_eq_false_iff_ne,bne_iff_ne,bne_eq_false_iff_eq,ne_eq,qap,not_true_eq_false]at hc|skip);first|omega|(simp only[qai,qac]at *;omega))
  | intro hc
  | (apply TO.pick;(iterate 3 exact rfl))
  | (apply TO.pass;exact rfl;exact rfl)
  | (apply TO.zcr;exact rfl)
  | (apply TO.load zaa;(iterate 5 exact rfl))
  | (apply TO.zaN zaa;(iterate 6 exact rfl))
  | (apply TO.fieldAddr zaa;(iterate 5 exact rfl);decide;exact rfl)
  | (apply TO.zam zaa;(iterate 5 exact rfl);decide;exact rfl)
  | (apply TO.nilCheck;(iterate 3 exact rfl))
  | (apply TO.zaE zaa;(iterate 5 exact rfl);assumption)
  | (apply TO.zax zaa;(iterate 5 exact rfl);decide;exact rfl)
  | (apply TO.za0 zaa;(iterate 4 exact rfl))
  | (apply TO.zbt zaa;(iterate 7 exact rfl))
  | refine zqg ?_
  | (apply TO.extract;(iterate 3 exact rfl))
  | (apply TO.zdq (zej _ _);(iterate 3 exact rfl);exact⟨.t _,.t _,trivial⟩)
  | refine TO.nil ?_
  | refine TR.seq ?_
  | refine TR.region ?_
  | (apply TR.zco;exact rfl)
  | (apply TR.zcn;exact rfl)
  | refine Then.normal ?_
  | refine TR.block ?_
  | refine TR.skip ?_
  | (apply TR.za1 hmix;kernel_rfl;exact rfl)
  | refine TR.exit ?_
  | refine TR.ret ?_
  | refine Then.exit ?_
  | refine Then.ret ?_
  | refine zaf.exit ?_
  | refine zaf.ret ?_
  | refine zac.normal ?_
  | refine zac.ret ?_
  | (apply zac.same;exact rfl)
  | (apply zac.other;exact rfl)
  | (apply TO.zaH;(iterate 3 exact rfl);omega;omega)
  | (apply TO.mul64;(iterate 3 exact rfl);omega;omega)
  | (apply TO.convert_u8;exact rfl;kernel_rfl;kernel_rfl;exact rfl)
  | (apply TO.bin;(iterate 4 exact rfl))
  | (apply TO.zbu zaa;(iterate 6 exact rfl);omega;omega)
  | (apply TO.zaL zaa;(iterate 5 exact rfl);omega)
  | (apply TO.zaO zaa;(iterate 5 exact rfl);omega)
  | (apply TO.not;exact rfl;exact rfl)
  | (apply TO.zau;exact rfl;exact rfl)
  | (apply TO.zaQ zaa;(iterate 4 exact rfl);exact leB)
  | (apply TO.zap zaa;(iterate 5 exact rfl);exact leB)
  | (apply TO.zbs zaa;(iterate 4 exact rfl))
  | (apply TO.zbr zaa;(iterate 7 exact rfl))
  | (apply TO.build zaa;(iterate 6 exact rfl))
  | refine zqn ?_
  | refine zqm ?_
  | refine zqe ?_
  | refine zqj ?_
  | refine zqb ?_
  | (apply TO.eqb;(iterate 3 exact rfl);kernel_rfl)
  | (apply TO.neb;(iterate 3 exact rfl);kernel_rfl)
  | (apply TO.zaC (j:=0) zaa;(iterate 10 exact rfl))
  | (apply TO.makeFunc;exact rfl;exact rfl)
  | (apply TO.zak zaa;(iterate 5 exact rfl);decide;exact rfl)
  | (apply TO.eq_nil_ptr zaa;(iterate 5 exact rfl))
  | (apply TO.eq_nil_nil zaa;(iterate 4 exact rfl))
  | (apply TO.ne_nil_ptr zaa;(iterate 5 exact rfl))
  | (apply TO.ne_nil_nil zaa;(iterate 4 exact rfl))
  | refine zqi ?_
  | refine zqk ?_
  | (apply TO.ssl_hi zaa;(iterate 8 exact rfl);omega))
 all_goals try(refine RetK.pure rfl ?_ rfl;exact Le.of_eq (by simp_all [pack,zej] <;> omega))
set_option maxHeartbeats 400000 in
theorem zi7 (c:Int):Pure Tryz.prog 52 [u8 c] (.b (c != 10)):=by
 refine so Tryz.func52 ?_
 repeat' (first
  | (apply TO.move;exact rfl;exact rfl)
  | (apply TO.assign;exact rfl;exact rfl)
  | (apply TO.want;exact rfl)
  | refine zql ?_
  | refine zqc ?_
  | (apply TO.eqs;(iterate 3 exact rfl))
  | (apply TO.nes;(iterate 3 exact rfl))
  | (apply TO.cmp;(iterate 4 exact rfl))
  | (intro hc;exact absurd hc (by decide))
  | (intro hc;exfalso;simp only[decide_eq_true_eq,decide_eq_false_iff_not,beq_iff_eq,beq_eq_false_iff_ne,bne_iff_ne,bne_eq_false_iff_eq,ne_eq,qap,not_true_eq_false]at hc;done)
  | (intro hc;exfalso;(first|simp only[decide_eq_true_eq,decide_eq_false_iff_not,beq_iff_eq,beq_eq_false_iff_ne,bne_iff_ne,bne_eq_false_iff_eq,ne_eq,qap,not_true_eq_false]at hc|skip);first|omega|(simp only[qai,qac]at *;omega))
  | intro hc
  | (apply TO.pick;(iterate 3 exact rfl))
  | (apply TO.pass;exact rfl;exact rfl)
  | (apply TO.zcr;exact rfl)
  | (apply TO.load zaa;(iterate 5 exact rfl))
  | (apply TO.zaN zaa;(iterate 6 exact rfl))
  | (apply TO.fieldAddr zaa;(iterate 5 exact rfl);decide;exact rfl)
  | (apply TO.zam zaa;(iterate 5 exact rfl);decide;exact rfl)
  | (apply TO.nilCheck;(iterate 3 exact rfl))
  | (apply TO.zaE zaa;(iterate 5 exact rfl);assumption)
  | (apply TO.zax zaa;(iterate 5 exact rfl);decide;exact rfl)
  | (apply TO.za0 zaa;(iterate 4 exact rfl))
  | (apply TO.zbt zaa;(iterate 7 exact rfl))
  | refine zqg ?_
  | (apply TO.extract;(iterate 3 exact rfl))
  | refine TO.nil ?_
  | refine TR.seq ?_
  | refine TR.region ?_
  | (apply TR.zco;exact rfl)
  | (apply TR.zcn;exact rfl)
  | refine Then.normal ?_
  | refine TR.block ?_
  | refine TR.skip ?_
  | (apply TR.za1 hmix;kernel_rfl;exact rfl)
  | refine TR.exit ?_
  | refine TR.ret ?_
  | refine Then.exit ?_
  | refine Then.ret ?_
  | refine zaf.exit ?_
  | refine zaf.ret ?_
  | refine zac.normal ?_
  | refine zac.ret ?_
  | (apply zac.same;exact rfl)
  | (apply zac.other;exact rfl)
  | (apply TO.zaH;(iterate 3 exact rfl);omega;omega)
  | (apply TO.mul64;(iterate 3 exact rfl);omega;omega)
  | (apply TO.convert_u8;exact rfl;kernel_rfl;kernel_rfl;exact rfl)
  | (apply TO.bin;(iterate 4 exact rfl))
  | (apply TO.zbu zaa;(iterate 6 exact rfl);omega;omega)
  | (apply TO.zaL zaa;(iterate 5 exact rfl);omega)
  | (apply TO.zaO zaa;(iterate 5 exact rfl);omega)
  | (apply TO.not;exact rfl;exact rfl)
  | (apply TO.zau;exact rfl;exact rfl)
  | (apply TO.zaQ zaa;(iterate 4 exact rfl);exact leB)
  | (apply TO.zap zaa;(iterate 5 exact rfl);exact leB)
  | (apply TO.zbs zaa;(iterate 4 exact rfl))
  | (apply TO.zbr zaa;(iterate 7 exact rfl))
  | (apply TO.build zaa;(iterate 6 exact rfl))
  | refine zqn ?_
  | refine zqm ?_
  | refine zqe ?_
  | refine zqj ?_
  | refine zqb ?_
  | (apply TO.eqb;(iterate 3 exact rfl);kernel_rfl)
  | (apply TO.neb;(iterate 3 exact rfl);kernel_rfl)
  | (apply TO.zaC (j:=0) zaa;(iterate 10 exact rfl))
  | (apply TO.makeFunc;exact rfl;exact rfl)
  | (apply TO.zak zaa;(iterate 5 exact rfl);decide;exact rfl)
  | (apply TO.eq_nil_ptr zaa;(iterate 5 exact rfl))
  | (apply TO.eq_nil_nil zaa;(iterate 4 exact rfl))
  | (apply TO.ne_nil_ptr zaa;(iterate 5 exact rfl))
  | (apply TO.ne_nil_nil zaa;(iterate 4 exact rfl))
  | refine zqi ?_
  | refine zqk ?_
  | (apply TO.ssl_hi zaa;(iterate 8 exact rfl);omega))
 all_goals exact zwds
def zav(c:Int):Bool:=c == 48 || c == 49 || c == 40 || c == 41
set_option maxHeartbeats 400000 in
theorem zjj (c:Int):Pure Tryz.prog 78 [u8 c] (.b (zav c)):=by
 refine so Tryz.func78 ?_
 repeat' (first
  | (apply TO.move;exact rfl;exact rfl)
  | (apply TO.assign;exact rfl;exact rfl)
  | (apply TO.want;exact rfl)
  | refine zql ?_
  | refine zqc ?_
  | (apply TO.eqs;(iterate 3 exact rfl))
  | (apply TO.nes;(iterate 3 exact rfl))
  | (apply TO.cmp;(iterate 4 exact rfl))
  | (intro hc;exact absurd hc (by decide))
  | (intro hc;exfalso;simp only[decide_eq_true_eq,decide_eq_false_iff_not,beq_iff_eq,beq_eq_false_iff_ne,bne_iff_ne,bne_eq_false_iff_eq,ne_eq,qap,not_true_eq_false]at hc;done)
  | (intro hc;exfalso;(first|simp only[decide_eq_true_eq,decide_eq_false_iff_not,beq_iff_eq,beq_eq_false_iff_ne,bne_iff_ne,bne_eq_false_iff_eq,ne_eq,qap,not_true_eq_false]at hc|skip);first|omega|(simp only[qai,qac]at *;omega))
  | intro hc
  | (apply TO.pick;(iterate 3 exact rfl))
  | (apply TO.pass;exact rfl;exact rfl)
  | (apply TO.zcr;exact rfl)
  | (apply TO.load zaa;(iterate 5 exact rfl))
  | (apply TO.zaN zaa;(iterate 6 exact rfl))
  | (apply TO.fieldAddr zaa;(iterate 5 exact rfl);decide;exact rfl)
  | (apply TO.zam zaa;(iterate 5 exact rfl);decide;exact rfl)
  | (apply TO.nilCheck;(iterate 3 exact rfl))
  | (apply TO.zaE zaa;(iterate 5 exact rfl);assumption)
  | (apply TO.zax zaa;(iterate 5 exact rfl);decide;exact rfl)
  | (apply TO.za0 zaa;(iterate 4 exact rfl))
  | (apply TO.zbt zaa;(iterate 7 exact rfl))
  | refine zqg ?_
  | (apply TO.extract;(iterate 3 exact rfl))
  | refine TO.nil ?_
  | refine TR.seq ?_
  | refine TR.region ?_
  | (apply TR.zco;exact rfl)
  | (apply TR.zcn;exact rfl)
  | refine Then.normal ?_
  | refine TR.block ?_
  | refine TR.skip ?_
  | (apply TR.za1 hmix;kernel_rfl;exact rfl)
  | refine TR.exit ?_
  | refine TR.ret ?_
  | refine Then.exit ?_
  | refine Then.ret ?_
  | refine zaf.exit ?_
  | refine zaf.ret ?_
  | refine zac.normal ?_
  | refine zac.ret ?_
  | (apply zac.same;exact rfl)
  | (apply zac.other;exact rfl)
  | (apply TO.zaH;(iterate 3 exact rfl);omega;omega)
  | (apply TO.mul64;(iterate 3 exact rfl);omega;omega)
  | (apply TO.convert_u8;exact rfl;kernel_rfl;kernel_rfl;exact rfl)
  | (apply TO.bin;(iterate 4 exact rfl))
  | (apply TO.zbu zaa;(iterate 6 exact rfl);omega;omega)
  | (apply TO.zaL zaa;(iterate 5 exact rfl);omega)
  | (apply TO.zaO zaa;(iterate 5 exact rfl);omega)
  | (apply TO.not;exact rfl;exact rfl)
  | (apply TO.zau;exact rfl;exact rfl)
  | (apply TO.zaQ zaa;(iterate 4 exact rfl);exact leB)
  | (apply TO.zap zaa;(iterate 5 exact rfl);exact leB)
  | (apply TO.zbs zaa;(iterate 4 exact rfl))
  | (apply TO.zbr zaa;(iterate 7 exact rfl))
  | (apply TO.build zaa;(iterate 6 exact rfl))
  | refine zqn ?_
  | refine zqm ?_
  | refine zqe ?_
  | refine zqj ?_
  | refine zqb ?_
  | (apply TO.eqb;(iterate 3 exact rfl);kernel_rfl)
  | (apply TO.neb;(iterate 3 exact rfl);kernel_rfl)
  | (apply TO.zaC (j:=0) zaa;(iterate 10 exact rfl))
  | (apply TO.makeFunc;exact rfl;exact rfl)
  | (apply TO.zak zaa;(iterate 5 exact rfl);decide;exact rfl)
  | (apply TO.eq_nil_ptr zaa;(iterate 5 exact rfl))
  | (apply TO.eq_nil_nil zaa;(iterate 4 exact rfl))
  | (apply TO.ne_nil_ptr zaa;(iterate 5 exact rfl))
  | (apply TO.ne_nil_nil zaa;(iterate 4 exact rfl))
  | refine zqi ?_
  | refine zqk ?_
  | (apply TO.ssl_hi zaa;(iterate 8 exact rfl);omega))
 all_goals try(refine RetK.pure rfl ?_ rfl;exact Le.of_eq (by simp_all [pack,zav] <;> omega))
def behind(p:Int->Bool)(l:Str):Str:=l.drop (zaq p l).length
theorem zdL(p:Int->Bool)(l:Str):(behind p l).length≤l.length:=by simp[behind]
theorem zcz{l:Str}(h:zbh l [45,45]=true):∃r,l=45::45::r:=by
 match l,h with
 | a::b::r,h=>simp[zbh]at h;exact⟨r,by rw[h.1,h.2]⟩
 | [a],h=>simp[zbh]at h
 | [],h=>simp[zbh]at h
theorem zeb{r:Str}:(behind (fun c=>c != 10) (45::45::r)).length<(45::45::r:Str).length:=by
 have:(zaq (fun c=>c != 10) (45::45::r)).length=(zaq (fun c=>c != 10) r).length+2:=by simp[zaq]
 simp[behind,this];omega
def skipped(l:Str):Str:=
 if h:zbh (behind blank l) [45,45]=true then skipped (behind (fun c=>c != 10) (behind blank l)) else behind blank l
termination_by l.length
decreasing_by
 obtain⟨r,hr⟩:=zcz h
 have h1:=zdL blank l
 rw[hr]at h1⊢
 have:=@zeb r
 omega
end Go.Proofs.YtpfnfpaahefdaaaGreat
